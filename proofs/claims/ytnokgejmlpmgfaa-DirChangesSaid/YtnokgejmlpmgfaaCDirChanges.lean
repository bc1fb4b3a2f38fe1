/- The law DirChanges: an entry put in, taken out, found; what entries link to, and their names. -/
import Derived.Test.YtnokgejmlpmgfaaCDirWith
import Derived.Test.YtnokgejmlpmgfaaCDirFind
import Derived.Test.YtnokgejmlpmgfaaCDirAwake
import Derived.Test.YtnokgejmlpmgfaaCDirFew
import Derived.Test.YtnokgejmlpmgfaaCDirWithRef
import Derived.Test.YtnokgejmlpmgfaaCDirWithoutRef
import Derived.Test.YtnokgejmlpmgfaaCDirClash
import Derived.Test.YtnokgejmlpmgfaaCDirLinks
import Derived.Test.YtnokgejmlpmgfaaCSortedRef
import Derived.Test.YtnokgejmlpmgfaaCIdsSame
namespace Go.Proofs.Ytnokgejmlpmgfaa
open Go.RowKit Go.Shelf
set_option linter.unusedVariables false
set_option linter.unusedSimpArgs false

/-- Where the first entry of a name stands, as the law counts it. -/
def atM (l : List En) (n : List UInt8) : Int := match l.findIdx? (fun x => x.name == n) with | none => -1 | some i => (i : Int)
theorem atM_zero (n : List UInt8) : atM [] n = -1 := rfl
theorem atM_next {l : List En} {k : Nat} {x : En} {n : List UInt8} (hk : k < l.length) (hx : l[k] = x) : atM (l.take (k + 1)) n = if (decide (atM (l.take k) n < 0) && x.name == n) = true then (k : Int) else atM (l.take k) n := by
  have hlen : (l.take k).length = k := by rw [List.length_take]; omega
  unfold atM
  rw [List.take_succ_eq_append_getElem hk, hx, List.findIdx?_append]
  cases hf : (l.take k).findIdx? fun x => x.name == n with
  | some i =>
    have : ¬ ((i : Int) < 0) := by omega
    simp [this]
  | none =>
    cases hb : x.name == n
    · simp [List.findIdx?_cons, hb]
    · simp [List.findIdx?_cons, hb, hlen]
theorem atM_ge (l : List En) (n : List UInt8) : -1 ≤ atM l n := by
  unfold atM
  split <;> omega
theorem atM_lt (l : List En) (n : List UInt8) : atM l n < (l.length : Int) + 1 := by
  unfold atM
  split
  · omega
  · rename_i i h
    have := (List.findIdx?_eq_some_iff_getElem.1 h).1
    omega
theorem atM_first {l : List En} {n : List UInt8} {i : Nat} (h : FirstE l n i) : atM l n = (i : Int) := by
  unfold atM
  rw [List.findIdx?_eq_some_iff_getElem.2 ⟨h.lt, by simp [h.at_], fun j hj => by simp [h.before j (by have := h.lt; omega) hj]⟩]
theorem atM_none {l : List En} {n : List UInt8} (h : ∀ x ∈ l, x.name ≠ n) : atM l n = -1 := by
  unfold atM
  rw [List.findIdx?_eq_none_iff.2 fun x hx => by simp [h x hx]]
-- WALK
theorem find_at {S : Nat → Prop} {w0 w : World} {L F : List Ent} {A : Option Addr} {c : Nat} {l : List En} {n : List UInt8} (h : St S w0 w L) [ka : Slot L (eSl A l.length c 100 (l.flatMap enK)) F] (hl : l.length ≤ 1000) :
    Calls Try.prog 40 #[.slice A l.length c, .string (str n)] w fun e w' => e = .returned (.tuple #[.int .i64 (max (atM l n) 0), .bool (decide (0 ≤ atM l n))]) ∧ St S w0 w' L :=
  (find_code h hl).mono fun e w' ⟨h1, h2⟩ => by
    rcases h1 with ⟨j, hj, rfl⟩ | ⟨hno, rfl⟩
    · rw [atM_first hj, Int.max_eq_left (by omega), decide_eq_true (by omega)]
      exact ⟨rfl, h2⟩
    · rw [atM_none hno]
      exact ⟨rfl, h2⟩
def ChRest (A9 : Option Addr) (c9 : Nat) (M : List (List UInt8)) (g15 gm g8 : Nat) (most : Int) (b : Bool) : List Ent := [eBlk g15 100 [.slice A9 M.length c9], eOwn 9 1 A9 M.length c9 (M.flatMap txc), eBlk gm 3 [.int .i64 most], eBlk g8 4 [.bool b]]
def ChM (g16 : Nat) (M : List (List UInt8)) (F : List Ent) (pre : List (List UInt8)) (L : List Ent) : Prop := pre <+: M ∧ L = eBlk g16 3 [.int .i64 (pre.length : Int)] :: F
def ChMx (g16 : Nat) (F : List Ent) (c : Code) (pre : List (List UInt8)) (L : List Ent) : Prop := c = Code.ret ∧ ∃ v : Int, L = eBlk g16 3 [.int .i64 v] :: F
def ChAx (g16 : Nat) (M : List (List UInt8)) (F : List Ent) (t : Array Value) (pre : List (List UInt8)) (x : List UInt8) (a' : Act) (L : List Ent) : Prop := a' = { tmps := (t.setIfInBounds 117 (.string (str x))).setIfInBounds 17 (.string (str x)), defers := [] } ∧ pre <+: M ∧ L = eBlk g16 3 [.int .i64 (pre.length : Int)] :: F
attribute [local go_sem] Oper.semAt_some
set_option maxRecDepth 100000 in
set_option maxHeartbeats 4000000 in
theorem walk_DirChanges0 {w0 : World} {l : List En} {A : Option Addr} {c : Nat} (ha : Sl w0 A l.length c 100 (l.flatMap enK)) (ho : ∀ e ∈ l, EnOk e) {e : En} (he : EnOk e) {n : List UInt8} {most : Int} :
    Calls Try.prog 12 #[.slice A l.length c, .agg (enK e).toArray, .string (str n), .int .i64 most] w0 fun r w' => r = .returned (.bool true) ∧ Below w0.heap.size w0 w' := by
  have h := St.read0 ha (by omega)
  clear ha
  obtain ⟨fw, hfw⟩ : ∃ fw, fewD l = fw := ⟨_, rfl⟩
  have Hf := Lib.hid hfw
  have hsz1 := str_size e.name
  have hsz2 := str_size n
  have HWok := Lib.hid (fun x hx => by rcases withM_mem hx with rfl | hx; exact he; exact ho x hx : ∀ x ∈ withM l e, EnOk x)
  have HTok := Lib.hid (fun x hx => ho x (List.mem_filter.1 hx).1 : ∀ x ∈ withoutM l n, EnOk x)
  have hWl := withM_length l e
  have hKl := keepE_length l e
  have hTl := withoutM_length l n
  obtain ⟨W, hW⟩ : ∃ W, withM l e = W := ⟨_, rfl⟩
  obtain ⟨T, hT⟩ : ∃ T, withoutM l n = T := ⟨_, rfl⟩
  obtain ⟨C, hC⟩ : ∃ C, clashM l e = C := ⟨_, rfl⟩
  rw [hW] at HWok hWl
  rw [hT] at HTok hTl
  have HW := Lib.hid hW
  have HT := Lib.hid hT
  have HC := Lib.hid hC
  obtain ⟨eb, en, ek, ei, ey, er, ee⟩ := e
  simp only at hsz1
  have q1 : Row (u8s eb.1) 32 := Row.u32 eb
  have q2 : Row (u8s ei.1) 32 := Row.u32 ei
  have q3 : Row (u8s ey.1) 32 := Row.u32 ey
  clear hW hT hC ho he
  cases fw with
  | false =>
    clear hfw
    refine callsIn_wide.1 (callsIn_of_wp_marks (F := Fence.wide) (n := 3) Try.func12 rfl trivial ?_ rfl)
    simp only [Try.ntmps12, List.size_toArray, List.length_cons, List.length_nil, Nat.reduceAdd, Nat.reduceSub, Array.replicate_succ, Array.replicate_zero, List.push_toArray, List.append_toArray, List.nil_append, List.cons_append]
    refine wpIn_wide.2 ?_
    go_wp2_with (first | (refine wl_at 5 rfl ?_; refine wl_runs rfl (ex_box h 87 _ rfl (enK ⟨eb, en, ek, ei, ey, er, ee⟩) rfl) ?_; clear h; rintro _ w ⟨ge, rfl, h⟩) | (refine wl_at 7 rfl ?_; refine wl_runs rfl (ex_box1i h 3 _ rfl .i64 most rfl) ?_; clear h; rintro _ w ⟨gm, rfl, h⟩) | (refine wl_at 8 rfl ?_; refine wl_runs rfl (ex_alloc h 4 rfl) ?_; clear h; rintro _ w ⟨g8, rfl, h⟩) | (go_at_call 13; refine (dir_awake h).mono ?_; clear h; rintro r w ⟨rfl, h⟩) | ((go_at_call 14; refine (few_dir h).mono ?_; rw [Hf.out]; clear h; rintro r w ⟨rfl, h⟩); go_upto_region 4 with fail) | (refine wl_none rfl ?_; refine wl_runs rfl (ex_store1b h _ _ _ rfl _ _ rfl _ rfl) ?_; clear h; rintro _ w ⟨rfl, h⟩; try dsimp only [Act.put]))
    exact ret_plain (res_cell1 rfl rfl (h.loadVar1 4 g8 0)) rfl ⟨rfl, h.step.below⟩
  | true =>
    obtain ⟨hn, _⟩ := fewD_yes hfw
    clear hfw
    by_cases hel : 200 < en.length
    · have f1 : decide ((200 : Int) < (en.length : Int)) = true := by simp; omega
      refine callsIn_wide.1 (callsIn_of_wp_marks (F := Fence.wide) (n := 3) Try.func12 rfl trivial ?_ rfl)
      simp only [Try.ntmps12, List.size_toArray, List.length_cons, List.length_nil, Nat.reduceAdd, Nat.reduceSub, Array.replicate_succ, Array.replicate_zero, List.push_toArray, List.append_toArray, List.nil_append, List.cons_append]
      refine wpIn_wide.2 ?_
      go_wp2_with (first | (refine wl_at 5 rfl ?_; refine wl_runs rfl (ex_box h 87 _ rfl (enK ⟨eb, en, ek, ei, ey, er, ee⟩) rfl) ?_; clear h; rintro _ w ⟨ge, rfl, h⟩) | (refine wl_at 7 rfl ?_; refine wl_runs rfl (ex_box1i h 3 _ rfl .i64 most rfl) ?_; clear h; rintro _ w ⟨gm, rfl, h⟩) | (refine wl_at 8 rfl ?_; refine wl_runs rfl (ex_alloc h 4 rfl) ?_; clear h; rintro _ w ⟨g8, rfl, h⟩) | (go_at_call 13; refine (dir_awake h).mono ?_; clear h; rintro r w ⟨rfl, h⟩) | (go_at_call 14; refine (few_dir h).mono ?_; rw [Hf.out]; clear h; rintro r w ⟨rfl, h⟩) | ((refine wl_at 25 rfl ?_; refine wl_reads rfl (ex_loadv h _ _ rfl _ _ rfl) ?_); go_upto_region 4 with fail) | (refine wl_none rfl ?_; refine wl_runs rfl (ex_store1b h _ _ _ rfl _ _ rfl _ rfl) ?_; clear h; rintro _ w ⟨rfl, h⟩; try dsimp only [Act.put]))
      exact ret_plain (res_cell1 rfl rfl (h.loadVar1 4 g8 0)) rfl ⟨rfl, h.step.below⟩
    have f1 : decide ((200 : Int) < (en.length : Int)) = false := by simp; omega
    by_cases hnl : 200 < n.length
    · have f2 : decide ((200 : Int) < (n.length : Int)) = true := by simp; omega
      refine callsIn_wide.1 (callsIn_of_wp_marks (F := Fence.wide) (n := 3) Try.func12 rfl trivial ?_ rfl)
      simp only [Try.ntmps12, List.size_toArray, List.length_cons, List.length_nil, Nat.reduceAdd, Nat.reduceSub, Array.replicate_succ, Array.replicate_zero, List.push_toArray, List.append_toArray, List.nil_append, List.cons_append]
      refine wpIn_wide.2 ?_
      go_wp2_with (first | (refine wl_at 5 rfl ?_; refine wl_runs rfl (ex_box h 87 _ rfl (enK ⟨eb, en, ek, ei, ey, er, ee⟩) rfl) ?_; clear h; rintro _ w ⟨ge, rfl, h⟩) | (refine wl_at 7 rfl ?_; refine wl_runs rfl (ex_box1i h 3 _ rfl .i64 most rfl) ?_; clear h; rintro _ w ⟨gm, rfl, h⟩) | (refine wl_at 8 rfl ?_; refine wl_runs rfl (ex_alloc h 4 rfl) ?_; clear h; rintro _ w ⟨g8, rfl, h⟩) | (go_at_call 13; refine (dir_awake h).mono ?_; clear h; rintro r w ⟨rfl, h⟩) | (go_at_call 14; refine (few_dir h).mono ?_; rw [Hf.out]; clear h; rintro r w ⟨rfl, h⟩) | ((refine wl_at 25 rfl ?_; refine wl_reads rfl (ex_loadv h _ _ rfl _ _ rfl) ?_); go_upto_region 4 with fail) | (refine wl_none rfl ?_; refine wl_runs rfl (ex_store1b h _ _ _ rfl _ _ rfl _ rfl) ?_; clear h; rintro _ w ⟨rfl, h⟩; try dsimp only [Act.put]))
      exact ret_plain (res_cell1 rfl rfl (h.loadVar1 4 g8 0)) rfl ⟨rfl, h.step.below⟩
    have f2 : decide ((200 : Int) < (n.length : Int)) = false := by simp; omega
    by_cases hmo : most < 0
    · have f3 : decide (most < 0) = true := by simp; omega
      refine callsIn_wide.1 (callsIn_of_wp_marks (F := Fence.wide) (n := 3) Try.func12 rfl trivial ?_ rfl)
      simp only [Try.ntmps12, List.size_toArray, List.length_cons, List.length_nil, Nat.reduceAdd, Nat.reduceSub, Array.replicate_succ, Array.replicate_zero, List.push_toArray, List.append_toArray, List.nil_append, List.cons_append]
      refine wpIn_wide.2 ?_
      go_wp2_with (first | (refine wl_at 5 rfl ?_; refine wl_runs rfl (ex_box h 87 _ rfl (enK ⟨eb, en, ek, ei, ey, er, ee⟩) rfl) ?_; clear h; rintro _ w ⟨ge, rfl, h⟩) | (refine wl_at 7 rfl ?_; refine wl_runs rfl (ex_box1i h 3 _ rfl .i64 most rfl) ?_; clear h; rintro _ w ⟨gm, rfl, h⟩) | (refine wl_at 8 rfl ?_; refine wl_runs rfl (ex_alloc h 4 rfl) ?_; clear h; rintro _ w ⟨g8, rfl, h⟩) | (go_at_call 13; refine (dir_awake h).mono ?_; clear h; rintro r w ⟨rfl, h⟩) | (go_at_call 14; refine (few_dir h).mono ?_; rw [Hf.out]; clear h; rintro r w ⟨rfl, h⟩) | (refine wl_at 25 rfl ?_; refine wl_reads rfl (ex_loadv h _ _ rfl _ _ rfl) ?_) | (refine wl_at 35 rfl ?_; refine wl_reads rfl (ex_loadv h _ _ rfl _ _ rfl) ?_) | (refine wl_none rfl ?_; refine wl_runs rfl (ex_store1b h _ _ _ rfl _ _ rfl _ rfl) ?_; clear h; rintro _ w ⟨rfl, h⟩; try dsimp only [Act.put]))
      exact ret_plain (res_cell1 rfl rfl (h.loadVar1 4 g8 0)) rfl ⟨rfl, h.step.below⟩
    have f3 : decide (most < 0) = false := by simp; omega
    have hal2 : W.length ≤ 1000 := by omega
    have hg := atM_ge l n
    obtain ⟨AT, hAT⟩ : ∃ AT, atM l n = AT := ⟨_, rfl⟩
    obtain ⟨fi, hfi⟩ : ∃ fi, max (atM l n) 0 = fi := ⟨_, rfl⟩
    obtain ⟨fb, hfb⟩ : ∃ fb, decide (0 ≤ atM l n) = fb := ⟨_, rfl⟩
    have Hfi := Lib.hid hfi
    have Hfb := Lib.hid hfb
    have HAT := Lib.hid hAT
    rw [hAT] at hg hfi hfb
    have hff : fb = true → (fi != AT) = false := fun e => by
      rw [e] at hfb
      have := of_decide_eq_true hfb
      have : fi = AT := by omega
      simp [this]
    have Hff := Lib.hid hff
    have Hfb2 := Lib.hid hfb
    clear hff hAT hfi hfb
    have hal3 : T.length ≤ 1000 := by omega
    clear hWl hKl hTl
    refine callsIn_wide.1 (callsIn_of_wp_marks (F := Fence.wide) (n := 3) Try.func12 rfl trivial ?_ rfl)
    simp only [Try.ntmps12, List.size_toArray, List.length_cons, List.length_nil, Nat.reduceAdd, Nat.reduceSub, Array.replicate_succ, Array.replicate_zero, List.push_toArray, List.append_toArray, List.nil_append, List.cons_append]
    refine wpIn_wide.2 ?_
    go_upto_region 5 with (first | (refine wl_at 5 rfl ?_; refine wl_runs rfl (ex_box h 87 _ rfl (enK ⟨eb, en, ek, ei, ey, er, ee⟩) rfl) ?_; clear h; rintro _ w ⟨ge, rfl, h⟩) | (refine wl_at 7 rfl ?_; refine wl_runs rfl (ex_box1i h 3 _ rfl .i64 most rfl) ?_; clear h; rintro _ w ⟨gm, rfl, h⟩) | (refine wl_at 8 rfl ?_; refine wl_runs rfl (ex_alloc h 4 rfl) ?_; clear h; rintro _ w ⟨g8, rfl, h⟩) | (go_at_call 13; refine (dir_awake h).mono ?_; clear h; rintro r w ⟨rfl, h⟩) | (go_at_call 14; refine (few_dir h).mono ?_; rw [Hf.out]; clear h; rintro r w ⟨rfl, h⟩) | (refine wl_at 25 rfl ?_; refine wl_reads rfl (ex_loadv h _ _ rfl _ _ rfl) ?_) | (refine wl_at 35 rfl ?_; refine wl_reads rfl (ex_loadv h _ _ rfl _ _ rfl) ?_))
    replace h : St _ _ w [eBlk g8 4 [.bool false], eBlk gm 3 [.int .i64 most], eBlk ge 87 (enK ⟨eb, en, ek, ei, ey, er, ee⟩), eSl A l.length c 100 (l.flatMap enK)] := h.to
    refine wp_nopanic ?_
    refine wp_region_K 18 (fun w' => St _ _ w' _) (by kernel_rfl) h.drew ?_; replace h := h.drew
    refine wpAnyK_pure 38 (v := ?_) (i := 0) (fuel := 17) rfl rfl (by kernel_rfl) (by kernel_rfl) (by kernel_rfl) (by decide) (fun _ _ _ h => h) (Or.inl ⟨by rfl, fun w _ => ?_⟩) ?_; rotate_left; (go_simp; with_reducible rfl); simp only [Act.put, List.setIfInBounds_toArray, List.set_cons_zero, List.set_cons_succ]
    refine wpAnyK_load 39 (i := 1) (fuel := 16) rfl rfl (by kernel_rfl) (by kernel_rfl) (by kernel_rfl) (.inr (by decide)) (by decide) (fun _ _ _ h => h) rfl (fun w h => ex_loadv h _ _ rfl _ _ rfl) ?_; simp only [Act.put, List.setIfInBounds_toArray, List.set_cons_zero, List.set_cons_succ]
    refine wpAnyK_pure 41 (v := ?_) (i := 3) (fuel := 15) rfl rfl (by kernel_rfl) (by kernel_rfl) (by kernel_rfl) (by decide) (fun _ _ _ h => h) (Or.inl ⟨by rfl, fun w _ => ?_⟩) ?_; rotate_left; (go_simp; with_reducible rfl); simp only [Act.put, List.setIfInBounds_toArray, List.set_cons_zero, List.set_cons_succ]
    refine wpAnyK_load 42 (i := 4) (fuel := 14) rfl rfl (by kernel_rfl) (by kernel_rfl) (by kernel_rfl) (.inr (by decide)) (by decide) (fun _ _ _ h => h) rfl (fun w h => ex_loadv h _ _ rfl _ _ rfl) ?_; simp only [Act.put, List.setIfInBounds_toArray, List.set_cons_zero, List.set_cons_succ]
    refine wpAnyK_one (i := 2) (fuel := 13) rfl (by kernel_rfl) rfl (fun K hK => ?_)
    (go_simp; go_wp2_with (go_at_call 39; refine (with_code (e := (⟨eb, en, ek, ei, ey, er, ee⟩ : En)) h (by omega)).mono ?_; rw [HW.out]; clear h; rintro r w ⟨A1, c1, rfl, h⟩)); refine hK.out _ _ (fun _ => h.to) ?_; clear hK K
    try simp only [Act.put, List.setIfInBounds_toArray, List.set_cons_zero, List.set_cons_succ]
    refine wpAnyK_one (i := 5) (fuel := 12) rfl (by kernel_rfl) rfl (fun K hK => ?_)
    (go_simp; go_wp2_with (go_at_call 44; refine (with_ref (e := (⟨eb, en, ek, ei, ey, er, ee⟩ : En)) h (by omega)).mono ?_; rw [HW.out]; clear h; rintro r w ⟨A2, c2, rfl, h⟩)); refine hK.out _ _ (fun _ => h.to) ?_; clear hK K
    try simp only [Act.put, List.setIfInBounds_toArray, List.set_cons_zero, List.set_cons_succ]
    refine wpAnyK_one (i := 6) (fuel := 11) rfl (by kernel_rfl) rfl (fun K hK => ?_)
    (go_simp; go_wp2_with (go_at_call 37; refine (same_entries (A := A1) (B := A2) (c := c1) (d := c2) (l := W) (m := W) h HWok.out HWok.out (by omega)).mono ?_; rw [decide_eq_true (rfl : W = W)]; clear h; rintro e w ⟨rfl, h⟩)); refine hK.out _ _ (fun _ => h.to) ?_; clear hK K
    try simp only [Act.put, List.setIfInBounds_toArray, List.set_cons_zero, List.set_cons_succ]
    refine wpAnyK_pure 45 (v := ?_) (i := 7) (fuel := 10) rfl rfl (by kernel_rfl) (by kernel_rfl) (by kernel_rfl) (by decide) (fun _ _ _ h => h) (Or.inl ⟨by rfl, fun w _ => ?_⟩) ?_; rotate_left; (go_simp; with_reducible rfl); simp only [Act.put, List.setIfInBounds_toArray, List.set_cons_zero, List.set_cons_succ]
    refine wpAnyK_pure 46 (v := ?_) (i := 8) (fuel := 9) rfl rfl (by kernel_rfl) (by kernel_rfl) (by kernel_rfl) (by decide) (fun _ _ _ h => h) (Or.inl ⟨by rfl, fun w _ => ?_⟩) ?_; rotate_left; (go_simp; with_reducible rfl); simp only [Act.put, List.setIfInBounds_toArray, List.set_cons_zero, List.set_cons_succ]
    refine wpAnyK_pure 47 (v := ?_) (i := 9) (fuel := 8) rfl rfl (by kernel_rfl) (by kernel_rfl) (by kernel_rfl) (by decide) (fun _ _ _ h => h) (Or.inl ⟨by rfl, fun w _ => ?_⟩) ?_; rotate_left; (go_simp; with_reducible rfl); simp only [Act.put, List.setIfInBounds_toArray, List.set_cons_zero, List.set_cons_succ]
    refine wpAnyK_pure 48 (v := ?_) (i := 10) (fuel := 7) rfl rfl (by kernel_rfl) (by kernel_rfl) (by kernel_rfl) (by decide) (fun _ _ _ h => h) (Or.inl ⟨by rfl, fun w _ => ?_⟩) ?_; rotate_left; (go_simp; with_reducible rfl); simp only [Act.put, List.setIfInBounds_toArray, List.set_cons_zero, List.set_cons_succ]
    refine wpAnyK_pure 50 (v := ?_) (i := 12) (fuel := 6) rfl rfl (by kernel_rfl) (by kernel_rfl) (by kernel_rfl) (by decide) (fun _ _ _ h => h) (Or.inl ⟨by rfl, fun w _ => ?_⟩) ?_; rotate_left; (go_simp; with_reducible rfl); simp only [Act.put, List.setIfInBounds_toArray, List.set_cons_zero, List.set_cons_succ]
    refine wpAnyK_pure 51 (v := ?_) (i := 13) (fuel := 5) rfl rfl (by kernel_rfl) (by kernel_rfl) (by kernel_rfl) (by decide) (fun _ _ _ h => h) (Or.inl ⟨by rfl, fun w _ => ?_⟩) ?_; rotate_left; (go_simp; with_reducible rfl); simp only [Act.put, List.setIfInBounds_toArray, List.set_cons_zero, List.set_cons_succ]
    refine wpAnyK_one (i := 11) (fuel := 4) rfl (by kernel_rfl) rfl (fun K hK => ?_)
    (go_simp; go_wp2_with (go_at_call 41; refine (without_code (n := n) h (by omega)).mono ?_; rw [HT.out]; clear h; rintro r w ⟨A3, c3, rfl, h⟩)); refine hK.out _ _ (fun _ => h.to) ?_; clear hK K
    try simp only [Act.put, List.setIfInBounds_toArray, List.set_cons_zero, List.set_cons_succ]
    refine wpAnyK_one (i := 14) (fuel := 3) rfl (by kernel_rfl) rfl (fun K hK => ?_)
    (go_simp; go_wp2_with (go_at_call 45; refine (without_ref (n := n) h (by omega)).mono ?_; rw [HT.out]; clear h; rintro r w ⟨A4, c4, rfl, h⟩)); refine hK.out _ _ (fun _ => h.to) ?_; clear hK K
    try simp only [Act.put, List.setIfInBounds_toArray, List.set_cons_zero, List.set_cons_succ]
    refine wpAnyK_one (i := 15) (fuel := 2) rfl (by kernel_rfl) rfl (fun K hK => ?_)
    (go_simp; go_wp2_with (go_at_call 37; refine (same_entries (A := A3) (B := A4) (c := c3) (d := c4) (l := T) (m := T) h HTok.out HTok.out (by omega)).mono ?_; rw [decide_eq_true (rfl : T = T)]; clear h; rintro e w ⟨rfl, h⟩)); refine hK.out _ _ (fun _ => h.to) ?_; clear hK K
    try simp only [Act.put, List.setIfInBounds_toArray, List.set_cons_zero, List.set_cons_succ]
    refine wpAnyK_pure 54 (v := ?_) (i := 16) (fuel := 1) rfl rfl (by kernel_rfl) (by kernel_rfl) (by kernel_rfl) (by decide) (fun _ _ _ h => h) (Or.inl ⟨by rfl, fun w _ => ?_⟩) ?_; rotate_left; (go_simp; with_reducible rfl); simp only [Act.put, List.setIfInBounds_toArray, List.set_cons_zero, List.set_cons_succ]
    refine wpAnyK_pure 55 (v := ?_) (i := 17) (fuel := 0) rfl rfl (by kernel_rfl) (by kernel_rfl) (by kernel_rfl) (by decide) (fun _ _ _ h => h) (Or.inl ⟨by rfl, fun w _ => ?_⟩) ?_; rotate_left; (go_simp; with_reducible rfl); simp only [Act.put, List.setIfInBounds_toArray, List.set_cons_zero, List.set_cons_succ]
    refine wpAnyK_done (by kernel_rfl) ?_; rw [noPanic_normal]
    all_goals
      replace h : St _ _ _ [eBlk g8 4 [.bool false], eBlk gm 3 [.int .i64 most], eBlk ge 87 (enK ⟨eb, en, ek, ei, ey, er, ee⟩), eSl A l.length c 100 (l.flatMap enK)] := h.to
      go_wp2_with (go_at_call 40; refine (find_at (n := n) h (by omega)).mono ?_; rw [Hfi.out, Hfb.out]; clear h; rintro r w ⟨rfl, h⟩)
      replace h := h.nilRow 9 1
      have Hlenl := Lib.hid hn
      go_loopw [11, 12, 64] (fun av v iv wr => ∃ (k : Nat) (A1 : Option Addr) (c1 : Nat) (acc : List (List UInt8)) (at_ : Int), av = .int .i64 at_ ∧ v = .slice A1 acc.length c1 ∧ iv = .int .i64 (k : Int) ∧ k ≤ l.length ∧ acc.length ≤ k ∧ Hid (namesE (l.take k) = acc) ∧ Hid (atM (l.take k) n = at_) ∧ St (fun _ => False) w0 wr (eOwn 9 1 A1 acc.length c1 (acc.flatMap txc) :: [eBlk g8 4 [.bool false], eBlk gm 3 [.int .i64 most], eBlk ge 87 (enK ⟨eb, en, ek, ei, ey, er, ee⟩), eSl A l.length c 100 (l.flatMap enK)])) (fun _ _ iv _ => l.length - (intOf iv).toNat)
      case atStart => exact ⟨0, none, 0, [], -1, rfl, rfl, rfl, Nat.zero_le _, Nat.le_refl _, Lib.hid (by simp [namesE]), Lib.hid (by simp [atM]), h⟩
      case round =>
        clear h
        obtain ⟨k, A1, c1, acc, at_, rfl, rfl, rfl, hk, hak, Hacc, Hat, h⟩ := hrel
        by_cases hkl : k < l.length
        · have g2 : (k : Int) < (l.length : Int) := by omega
          have t1 : ((k : Int)).toNat = k := by omega
          obtain ⟨x, hx⟩ : ∃ x, l[k] = x := ⟨_, rfl⟩
          obtain ⟨b, off, rfl, _⟩ := (h.sl A l.length c).pos (by omega)
          have hcs : ∀ w, Sl w (some ⟨b, off, none⟩) l.length c 100 (l.flatMap enK) → Cells w b (off + k * 100) (enK x) := fun w hs => by rw [← hx]; exact hs.elemAt enK_length hkl (by omega)
          have Hcs := Lib.hid hcs
          have hnx := namesE_next hkl hx
          rw [Hacc.out] at hnx
          have hax := atM_next (n := n) hkl hx
          rw [Hat.out] at hax
          obtain ⟨D, hD⟩ : ∃ D, decide (at_ < 0) = D := ⟨_, rfl⟩
          obtain ⟨B, hB⟩ : ∃ B, (x.name == n) = B := ⟨_, rfl⟩
          rw [hD, hB] at hax
          have hst : ((str x.name).toList == (str n).toList) = B := by rw [str_toList, str_toList]; exact hB
          obtain ⟨xb, xn, xk, xi, xy, xr, xe⟩ := x
          simp only at hnx hst
          have Hnx := Lib.hid hnx
          have Hlen := Lib.hid (show (acc ++ [xn]).length = acc.length + 1 by simp)
          have Hflat := Lib.hid (show (acc ++ [xn]).flatMap txc = acc.flatMap txc ++ [.string (str xn)] by simp [txc])
          have r1 : Row (u8s xb.1) 32 := Row.u32 xb
          have r2 : Row (u8s xi.1) 32 := Row.u32 xi
          have r3 : Row (u8s xy.1) 32 := Row.u32 xy
          clear hcs hx hnx hB
          cases D with
          | false =>
            have Hax := Lib.hid (by simpa using hax : atM (l.take (k + 1)) n = at_)
            clear hax hst
            go_wp2_with (first | (refine wl_at 68 rfl ?_; refine wl_reads rfl (ex_load_at _ _ rfl b (off + k * 100) rfl (enK ⟨xb, xn, xk, xi, xy, xr, xe⟩) (enK_length _) (Hcs.out _ (h.sl (some ⟨b, off, none⟩) l.length c))) ?_) | (refine wl_at 14 rfl ?_; refine wl_runs rfl (ex_alloc h 87 rfl) ?_; clear h; rintro _ w ⟨g, rfl, h⟩) | ((refine wl_none rfl ?_; refine wl_runs rfl (ex_store h _ _ _ rfl _ _ rfl (enK ⟨xb, xn, xk, xi, xy, xr, xe⟩) rfl) ?_; clear h; rintro _ w ⟨rfl, h⟩; try dsimp only [Act.put]); go_upto_region 15 with fail) | (refine wl_at 80 rfl ?_; refine wl_reads rfl (ex_loadv h _ _ rfl _ _ rfl) ?_) | (refine wl_at 81 rfl ?_; refine wl_runs rfl (ex_slice1t h _ _ rfl _ rfl) ?_; clear h; rintro _ w ⟨gq, rfl, h⟩) | (refine wl_at 82 rfl ?_; refine wl_runs rfl (ex_append h _ _ _ rfl A1 rfl (some ⟨gq, 0, none⟩) 1 1 rfl (h.sl (some ⟨gq, 0, none⟩) 1 1) (txs_one [xn]) (by simp [maxLen]; omega) (by omega)) ?_; clear h; rintro _ w ⟨A2, c2, rfl, h⟩))
            refine ⟨⟨k + 1, A2, c2, _, at_, rfl, by rw [Hlen.out], by push_cast; rfl, by omega, by rw [Hlen.out]; omega, Hnx, Hax, by rw [Hflat.out, Hlen.out]; exact h.to⟩, ?_⟩
            simp only [intOf]
            omega
          | true =>
            cases B with
            | true =>
              have Hax := Lib.hid (by simpa using hax : atM (l.take (k + 1)) n = (k : Int))
              clear hax
              go_wp2_with (first | (refine wl_at 68 rfl ?_; refine wl_reads rfl (ex_load_at _ _ rfl b (off + k * 100) rfl (enK ⟨xb, xn, xk, xi, xy, xr, xe⟩) (enK_length _) (Hcs.out _ (h.sl (some ⟨b, off, none⟩) l.length c))) ?_) | (refine wl_at 14 rfl ?_; refine wl_runs rfl (ex_alloc h 87 rfl) ?_; clear h; rintro _ w ⟨g, rfl, h⟩) | (refine wl_none rfl ?_; refine wl_runs rfl (ex_store h _ _ _ rfl _ _ rfl (enK ⟨xb, xn, xk, xi, xy, xr, xe⟩) rfl) ?_; clear h; rintro _ w ⟨rfl, h⟩; try dsimp only [Act.put]) | (refine wl_at 73 rfl ?_; refine wl_reads rfl (ex_loadv h _ _ rfl _ _ rfl) ?_) | (refine wl_at 80 rfl ?_; refine wl_reads rfl (ex_loadv h _ _ rfl _ _ rfl) ?_) | (refine wl_at 81 rfl ?_; refine wl_runs rfl (ex_slice1t h _ _ rfl _ rfl) ?_; clear h; rintro _ w ⟨gq, rfl, h⟩) | (refine wl_at 82 rfl ?_; refine wl_runs rfl (ex_append h _ _ _ rfl A1 rfl (some ⟨gq, 0, none⟩) 1 1 rfl (h.sl (some ⟨gq, 0, none⟩) 1 1) (txs_one [xn]) (by simp [maxLen]; omega) (by omega)) ?_; clear h; rintro _ w ⟨A2, c2, rfl, h⟩))
              refine ⟨⟨k + 1, A2, c2, _, (k : Int), rfl, by rw [Hlen.out], by push_cast; rfl, by omega, by rw [Hlen.out]; omega, Hnx, Hax, by rw [Hflat.out, Hlen.out]; exact h.to⟩, ?_⟩
              simp only [intOf]
              omega
            | false =>
              have Hax := Lib.hid (by simpa using hax : atM (l.take (k + 1)) n = at_)
              clear hax
              go_wp2_with (first | (refine wl_at 68 rfl ?_; refine wl_reads rfl (ex_load_at _ _ rfl b (off + k * 100) rfl (enK ⟨xb, xn, xk, xi, xy, xr, xe⟩) (enK_length _) (Hcs.out _ (h.sl (some ⟨b, off, none⟩) l.length c))) ?_) | (refine wl_at 14 rfl ?_; refine wl_runs rfl (ex_alloc h 87 rfl) ?_; clear h; rintro _ w ⟨g, rfl, h⟩) | (refine wl_none rfl ?_; refine wl_runs rfl (ex_store h _ _ _ rfl _ _ rfl (enK ⟨xb, xn, xk, xi, xy, xr, xe⟩) rfl) ?_; clear h; rintro _ w ⟨rfl, h⟩; try dsimp only [Act.put]) | (refine wl_at 73 rfl ?_; refine wl_reads rfl (ex_loadv h _ _ rfl _ _ rfl) ?_) | (refine wl_at 80 rfl ?_; refine wl_reads rfl (ex_loadv h _ _ rfl _ _ rfl) ?_) | (refine wl_at 81 rfl ?_; refine wl_runs rfl (ex_slice1t h _ _ rfl _ rfl) ?_; clear h; rintro _ w ⟨gq, rfl, h⟩) | (refine wl_at 82 rfl ?_; refine wl_runs rfl (ex_append h _ _ _ rfl A1 rfl (some ⟨gq, 0, none⟩) 1 1 rfl (h.sl (some ⟨gq, 0, none⟩) 1 1) (txs_one [xn]) (by simp [maxLen]; omega) (by omega)) ?_; clear h; rintro _ w ⟨A2, c2, rfl, h⟩))
              refine ⟨⟨k + 1, A2, c2, _, at_, rfl, by rw [Hlen.out], by push_cast; rfl, by omega, by rw [Hlen.out]; omega, Hnx, Hax, by rw [Hflat.out, Hlen.out]; exact h.to⟩, ?_⟩
              simp only [intOf]
              omega
        · obtain rfl : k = l.length := by omega
          have hkk : ¬ ((l.length : Int) < (l.length : Int)) := by omega
          have hac := Hacc.out
          rw [List.take_length] at hac
          have hat := Hat.out
          rw [List.take_length, HAT.out] at hat
          subst hat
          clear hkl
          have Hac := Lib.hid hac
          obtain ⟨IDS, hIDS⟩ : ∃ IDS, linksM (idsE l) = IDS := ⟨_, rfl⟩
          have HIDS := Lib.hid hIDS
          have hidl : IDS.length ≤ 1000 := by
            have h1 := linksM_length (idsE l)
            rw [hIDS, idsE_length] at h1
            omega
          have g1 : decide (0 ≤ AT) = fb := Hfb2.out
          have hcc : (C != C) = false := by simp
          have hbb : (fb != fb) = false := by simp
          clear hIDS hac
          go_upto_region 17 with (fail)
          replace h : St _ _ wr (eOwn 9 1 A1 acc.length c1 (acc.flatMap txc) :: [eBlk g8 4 [.bool false], eBlk gm 3 [.int .i64 most], eBlk ge 87 (enK ⟨eb, en, ek, ei, ey, er, ee⟩), eSl A l.length c 100 (l.flatMap enK)]) := h.to
          have hffc : fb = true → (fi != AT) = false := Hff.out
          cases fb
          focus
            clear hffc
            refine wp_nopanic ?_
            refine wp_region_K 29 (fun w' => St _ _ w' _) (by kernel_rfl) h.drew ?_; replace h := h.drew
            refine wpAnyK_pure 84 (v := ?_) (i := 0) (fuel := 28) rfl rfl (by kernel_rfl) (by kernel_rfl) (by kernel_rfl) (by decide) (fun _ _ _ h => h) (Or.inl ⟨by rfl, fun w _ => ?_⟩) ?_; rotate_left; (go_simp; with_reducible rfl); simp only [Act.put, List.setIfInBounds_toArray, List.set_cons_zero, List.set_cons_succ]
            refine wpAnyK_load 85 (i := 1) (fuel := 27) rfl rfl (by kernel_rfl) (by kernel_rfl) (by kernel_rfl) (.inr (by decide)) (by decide) (fun _ _ _ h => h) rfl (fun w h => ex_loadv h _ _ rfl _ _ rfl) ?_; simp only [Act.put, List.setIfInBounds_toArray, List.set_cons_zero, List.set_cons_succ]
            refine wpAnyK_pure 87 (v := ?_) (i := 3) (fuel := 26) rfl rfl (by kernel_rfl) (by kernel_rfl) (by kernel_rfl) (by decide) (fun _ _ _ h => h) (Or.inl ⟨by rfl, fun w _ => ?_⟩) ?_; rotate_left; (go_simp; with_reducible rfl); simp only [Act.put, List.setIfInBounds_toArray, List.set_cons_zero, List.set_cons_succ]
            refine wpAnyK_load 88 (i := 4) (fuel := 25) rfl rfl (by kernel_rfl) (by kernel_rfl) (by kernel_rfl) (.inr (by decide)) (by decide) (fun _ _ _ h => h) rfl (fun w h => ex_loadv h _ _ rfl _ _ rfl) ?_; simp only [Act.put, List.setIfInBounds_toArray, List.set_cons_zero, List.set_cons_succ]
            refine wpAnyK_one (i := 2) (fuel := 24) rfl (by kernel_rfl) rfl (fun K hK => ?_)
            (go_simp; go_wp2_with (go_at_call 46; refine (clash_code (e := (⟨eb, en, ek, ei, ey, er, ee⟩ : En)) h (by omega)).mono ?_; rw [HC.out]; clear h; rintro r w ⟨rfl, h⟩)); refine hK.out _ _ (fun _ => h.to) ?_; clear hK K
            try simp only [Act.put, List.setIfInBounds_toArray, List.set_cons_zero, List.set_cons_succ]
            refine wpAnyK_one (i := 5) (fuel := 23) rfl (by kernel_rfl) rfl (fun K hK => ?_)
            (go_simp; go_wp2_with (go_at_call 47; refine (clash_ref (e := (⟨eb, en, ek, ei, ey, er, ee⟩ : En)) h (by omega)).mono ?_; rw [HC.out]; clear h; rintro r w ⟨rfl, h⟩)); refine hK.out _ _ (fun _ => h.to) ?_; clear hK K
            try simp only [Act.put, List.setIfInBounds_toArray, List.set_cons_zero, List.set_cons_succ]
            refine wpAnyK_pure 90 (v := ?_) (i := 6) (fuel := 22) rfl rfl (by kernel_rfl) (by kernel_rfl) (by kernel_rfl) (by decide) (fun _ _ _ h => h) (Or.inl ⟨by rfl, fun w _ => ?_⟩) ?_; rotate_left; (go_simp; with_reducible rfl); simp only [Act.put, List.setIfInBounds_toArray, List.set_cons_zero, List.set_cons_succ]
            refine wpAnyK_pure 91 (v := ?_) (i := 7) (fuel := 21) rfl rfl (by kernel_rfl) (by kernel_rfl) (by kernel_rfl) (by decide) (fun _ _ _ h => h) (Or.inl ⟨by rfl, fun w _ => ?_⟩) ?_; rotate_left; (go_simp; with_reducible rfl); simp only [Act.put, List.setIfInBounds_toArray, List.set_cons_zero, List.set_cons_succ]
            refine wpAnyK_pure 92 (v := ?_) (i := 8) (fuel := 20) rfl rfl (by kernel_rfl) (by kernel_rfl) (by kernel_rfl) (by decide) (fun _ _ _ h => h) (Or.inl ⟨by rfl, fun w _ => ?_⟩) ?_; rotate_left; (go_simp; with_reducible rfl); simp only [Act.put, List.setIfInBounds_toArray, List.set_cons_zero, List.set_cons_succ]
            refine wpAnyK_pure 93 (v := ?_) (i := 9) (fuel := 19) rfl rfl (by kernel_rfl) (by kernel_rfl) (by kernel_rfl) (by decide) (fun _ _ _ h => h) (Or.inl ⟨by rfl, fun w _ => ?_⟩) ?_; rotate_left; (go_simp; with_reducible rfl); simp only [Act.put, List.setIfInBounds_toArray, List.set_cons_zero, List.set_cons_succ]
            refine wpAnyK_pure 94 (v := ?_) (i := 10) (fuel := 18) rfl rfl (by kernel_rfl) (by kernel_rfl) (by kernel_rfl) (by decide) (fun _ _ _ h => h) (Or.inl ⟨by rfl, fun w _ => ?_⟩) ?_; rotate_left; (go_simp; with_reducible rfl); simp only [Act.put, List.setIfInBounds_toArray, List.set_cons_zero, List.set_cons_succ]
            refine wpAnyK_pure 95 (v := ?_) (i := 11) (fuel := 17) rfl rfl (by kernel_rfl) (by kernel_rfl) (by kernel_rfl) (by decide) (fun _ _ _ h => h) (Or.inl ⟨by rfl, fun w _ => ?_⟩) ?_; rotate_left; (go_simp; with_reducible rfl); simp only [Act.put, List.setIfInBounds_toArray, List.set_cons_zero, List.set_cons_succ]
            refine wpAnyK_pure 96 (v := ?_) (i := 12) (fuel := 16) rfl rfl (by kernel_rfl) (by kernel_rfl) (by kernel_rfl) (by decide) (fun _ _ _ h => h) (Or.inl ⟨by rfl, fun w _ => ?_⟩) ?_; rotate_left; (go_simp; with_reducible rfl); simp only [Act.put, List.setIfInBounds_toArray, List.set_cons_zero, List.set_cons_succ]
            refine wpAnyK_pure 97 (v := ?_) (i := 13) (fuel := 15) rfl rfl (by kernel_rfl) (by kernel_rfl) (by kernel_rfl) (by decide) (fun _ _ _ h => h) (Or.inl ⟨by rfl, fun w _ => ?_⟩) ?_; rotate_left; (go_simp; with_reducible rfl); simp only [Act.put, List.setIfInBounds_toArray, List.set_cons_zero, List.set_cons_succ]
            refine wpAnyK_pure 98 (v := ?_) (i := 14) (fuel := 14) rfl rfl (by kernel_rfl) (by kernel_rfl) (by kernel_rfl) (by decide) (fun _ _ _ h => h) (Or.inl ⟨by rfl, fun w _ => ?_⟩) ?_; rotate_left; (go_simp; with_reducible rfl); simp only [Act.put, List.setIfInBounds_toArray, List.set_cons_zero, List.set_cons_succ]
            refine wpAnyK_pure 99 (v := ?_) (i := 15) (fuel := 13) rfl rfl (by kernel_rfl) (by kernel_rfl) (by kernel_rfl) (by decide) (fun _ _ _ h => h) (Or.inl ⟨by rfl, fun w _ => ?_⟩) ?_; rotate_left; (go_simp; with_reducible rfl); simp only [Act.put, List.setIfInBounds_toArray, List.set_cons_zero, List.set_cons_succ]
            refine wpAnyK_not 100 (i := 16) (fuel := 12) rfl rfl (by kernel_rfl) (by kernel_rfl) (by kernel_rfl) (by decide) (fun _ _ _ h => h) (by rfl) ?_; simp only [Act.put, List.setIfInBounds_toArray, List.set_cons_zero, List.set_cons_succ]
            refine wpAnyK_not 101 (i := 17) (fuel := 11) rfl rfl (by kernel_rfl) (by kernel_rfl) (by kernel_rfl) (by decide) (fun _ _ _ h => h) (by rfl) ?_; simp only [Act.put, List.setIfInBounds_toArray, List.set_cons_zero, List.set_cons_succ]
            refine wpAnyK_not 102 (i := 18) (fuel := 10) rfl rfl (by kernel_rfl) (by kernel_rfl) (by kernel_rfl) (by decide) (fun _ _ _ h => h) (by rfl) ?_; simp only [Act.put, List.setIfInBounds_toArray, List.set_cons_zero, List.set_cons_succ]
            refine wpAnyK_pure 103 (v := ?_) (i := 19) (fuel := 9) rfl rfl (by kernel_rfl) (by kernel_rfl) (by kernel_rfl) (by decide) (fun _ _ _ h => h) (Or.inl ⟨by rfl, fun w _ => ?_⟩) ?_; rotate_left; (go_simp; with_reducible rfl); simp only [Act.put, List.setIfInBounds_toArray, List.set_cons_zero, List.set_cons_succ]
            refine wpAnyK_pure 104 (v := ?_) (i := 20) (fuel := 8) rfl rfl (by kernel_rfl) (by kernel_rfl) (by kernel_rfl) (by decide) (fun _ _ _ h => h) (Or.inl ⟨by rfl, fun w _ => ?_⟩) ?_; rotate_left; (go_simp; with_reducible rfl); simp only [Act.put, List.setIfInBounds_toArray, List.set_cons_zero, List.set_cons_succ]
            refine wpAnyK_pure 105 (v := ?_) (i := 21) (fuel := 7) rfl rfl (by kernel_rfl) (by kernel_rfl) (by kernel_rfl) (by decide) (fun _ _ _ h => h) (Or.inl ⟨by rfl, fun w _ => ?_⟩) ?_; rotate_left; (go_simp; with_reducible rfl); simp only [Act.put, List.setIfInBounds_toArray, List.set_cons_zero, List.set_cons_succ]
            refine wpAnyK_pure 106 (v := ?_) (i := 22) (fuel := 6) rfl rfl (by kernel_rfl) (by kernel_rfl) (by kernel_rfl) (by decide) (fun _ _ _ h => h) (Or.inl ⟨by rfl, fun w _ => ?_⟩) ?_; rotate_left; (go_simp; with_reducible rfl); simp only [Act.put, List.setIfInBounds_toArray, List.set_cons_zero, List.set_cons_succ]
            refine wpAnyK_pure 108 (v := ?_) (i := 24) (fuel := 5) rfl rfl (by kernel_rfl) (by kernel_rfl) (by kernel_rfl) (by decide) (fun _ _ _ h => h) (Or.inl ⟨by rfl, fun w _ => ?_⟩) ?_; rotate_left; (go_simp; with_reducible rfl); simp only [Act.put, List.setIfInBounds_toArray, List.set_cons_zero, List.set_cons_succ]
            refine wpAnyK_one (i := 23) (fuel := 4) rfl (by kernel_rfl) rfl (fun K hK => ?_)
            (go_simp; go_wp2_with (go_at_call 49; refine (dlinks_code h (by omega)).mono ?_; rw [HIDS.out]; clear h; rintro r w ⟨A5, c5, rfl, h⟩)); refine hK.out _ _ (fun _ => h.to) ?_; clear hK K
            try simp only [Act.put, List.setIfInBounds_toArray, List.set_cons_zero, List.set_cons_succ]
            refine wpAnyK_one (i := 25) (fuel := 3) rfl (by kernel_rfl) rfl (fun K hK => ?_)
            (go_simp; go_wp2_with (go_at_call 50; refine (dlinks_ref h (by omega)).mono ?_; rw [HIDS.out]; clear h; rintro r w ⟨A6, c6, rfl, h⟩)); refine hK.out _ _ (fun _ => h.to) ?_; clear hK K
            try simp only [Act.put, List.setIfInBounds_toArray, List.set_cons_zero, List.set_cons_succ]
            refine wpAnyK_one (i := 26) (fuel := 2) rfl (by kernel_rfl) rfl (fun K hK => ?_)
            (go_simp; go_wp2_with (go_at_call 48; refine (same_ids (h.sl A5 IDS.length c5) (h.sl A6 IDS.length c6) (by omega)).mono ?_; rw [decide_eq_true (rfl : IDS = IDS)]; rintro r w ⟨rfl, q, rfl⟩; replace h := h.quiet ((Step.refl (fun _ => False) _).drewN q))); refine hK.out _ _ (fun _ => h.to) ?_; clear hK K
            try simp only [Act.put, List.setIfInBounds_toArray, List.set_cons_zero, List.set_cons_succ]
            refine wpAnyK_pure 111 (v := ?_) (i := 27) (fuel := 1) rfl rfl (by kernel_rfl) (by kernel_rfl) (by kernel_rfl) (by decide) (fun _ _ _ h => h) (Or.inl ⟨by rfl, fun w _ => ?_⟩) ?_; rotate_left; (go_simp; with_reducible rfl); simp only [Act.put, List.setIfInBounds_toArray, List.set_cons_zero, List.set_cons_succ]
            refine wpAnyK_pure 112 (v := ?_) (i := 28) (fuel := 0) rfl rfl (by kernel_rfl) (by kernel_rfl) (by kernel_rfl) (by decide) (fun _ _ _ h => h) (Or.inl ⟨by rfl, fun w _ => ?_⟩) ?_; rotate_left; (go_simp; with_reducible rfl); simp only [Act.put, List.setIfInBounds_toArray, List.set_cons_zero, List.set_cons_succ]
            refine wpAnyK_done (by kernel_rfl) ?_; rw [noPanic_normal]
          rotate_left
          focus
            have hff := hffc rfl
            clear hffc
            refine wp_nopanic ?_
            refine wp_region_K 29 (fun w' => St _ _ w' _) (by kernel_rfl) h.drew ?_; replace h := h.drew
            refine wpAnyK_pure 84 (v := ?_) (i := 0) (fuel := 28) rfl rfl (by kernel_rfl) (by kernel_rfl) (by kernel_rfl) (by decide) (fun _ _ _ h => h) (Or.inl ⟨by rfl, fun w _ => ?_⟩) ?_; rotate_left; (go_simp; with_reducible rfl); simp only [Act.put, List.setIfInBounds_toArray, List.set_cons_zero, List.set_cons_succ]
            refine wpAnyK_load 85 (i := 1) (fuel := 27) rfl rfl (by kernel_rfl) (by kernel_rfl) (by kernel_rfl) (.inr (by decide)) (by decide) (fun _ _ _ h => h) rfl (fun w h => ex_loadv h _ _ rfl _ _ rfl) ?_; simp only [Act.put, List.setIfInBounds_toArray, List.set_cons_zero, List.set_cons_succ]
            refine wpAnyK_pure 87 (v := ?_) (i := 3) (fuel := 26) rfl rfl (by kernel_rfl) (by kernel_rfl) (by kernel_rfl) (by decide) (fun _ _ _ h => h) (Or.inl ⟨by rfl, fun w _ => ?_⟩) ?_; rotate_left; (go_simp; with_reducible rfl); simp only [Act.put, List.setIfInBounds_toArray, List.set_cons_zero, List.set_cons_succ]
            refine wpAnyK_load 88 (i := 4) (fuel := 25) rfl rfl (by kernel_rfl) (by kernel_rfl) (by kernel_rfl) (.inr (by decide)) (by decide) (fun _ _ _ h => h) rfl (fun w h => ex_loadv h _ _ rfl _ _ rfl) ?_; simp only [Act.put, List.setIfInBounds_toArray, List.set_cons_zero, List.set_cons_succ]
            refine wpAnyK_one (i := 2) (fuel := 24) rfl (by kernel_rfl) rfl (fun K hK => ?_)
            (go_simp; go_wp2_with (go_at_call 46; refine (clash_code (e := (⟨eb, en, ek, ei, ey, er, ee⟩ : En)) h (by omega)).mono ?_; rw [HC.out]; clear h; rintro r w ⟨rfl, h⟩)); refine hK.out _ _ (fun _ => h.to) ?_; clear hK K
            try simp only [Act.put, List.setIfInBounds_toArray, List.set_cons_zero, List.set_cons_succ]
            refine wpAnyK_one (i := 5) (fuel := 23) rfl (by kernel_rfl) rfl (fun K hK => ?_)
            (go_simp; go_wp2_with (go_at_call 47; refine (clash_ref (e := (⟨eb, en, ek, ei, ey, er, ee⟩ : En)) h (by omega)).mono ?_; rw [HC.out]; clear h; rintro r w ⟨rfl, h⟩)); refine hK.out _ _ (fun _ => h.to) ?_; clear hK K
            try simp only [Act.put, List.setIfInBounds_toArray, List.set_cons_zero, List.set_cons_succ]
            refine wpAnyK_pure 90 (v := ?_) (i := 6) (fuel := 22) rfl rfl (by kernel_rfl) (by kernel_rfl) (by kernel_rfl) (by decide) (fun _ _ _ h => h) (Or.inl ⟨by rfl, fun w _ => ?_⟩) ?_; rotate_left; (go_simp; with_reducible rfl); simp only [Act.put, List.setIfInBounds_toArray, List.set_cons_zero, List.set_cons_succ]
            refine wpAnyK_pure 91 (v := ?_) (i := 7) (fuel := 21) rfl rfl (by kernel_rfl) (by kernel_rfl) (by kernel_rfl) (by decide) (fun _ _ _ h => h) (Or.inl ⟨by rfl, fun w _ => ?_⟩) ?_; rotate_left; (go_simp; with_reducible rfl); simp only [Act.put, List.setIfInBounds_toArray, List.set_cons_zero, List.set_cons_succ]
            refine wpAnyK_pure 92 (v := ?_) (i := 8) (fuel := 20) rfl rfl (by kernel_rfl) (by kernel_rfl) (by kernel_rfl) (by decide) (fun _ _ _ h => h) (Or.inl ⟨by rfl, fun w _ => ?_⟩) ?_; rotate_left; (go_simp; with_reducible rfl); simp only [Act.put, List.setIfInBounds_toArray, List.set_cons_zero, List.set_cons_succ]
            refine wpAnyK_pure 93 (v := ?_) (i := 9) (fuel := 19) rfl rfl (by kernel_rfl) (by kernel_rfl) (by kernel_rfl) (by decide) (fun _ _ _ h => h) (Or.inl ⟨by rfl, fun w _ => ?_⟩) ?_; rotate_left; (go_simp; with_reducible rfl); simp only [Act.put, List.setIfInBounds_toArray, List.set_cons_zero, List.set_cons_succ]
            refine wpAnyK_pure 94 (v := ?_) (i := 10) (fuel := 18) rfl rfl (by kernel_rfl) (by kernel_rfl) (by kernel_rfl) (by decide) (fun _ _ _ h => h) (Or.inl ⟨by rfl, fun w _ => ?_⟩) ?_; rotate_left; (go_simp; with_reducible rfl); simp only [Act.put, List.setIfInBounds_toArray, List.set_cons_zero, List.set_cons_succ]
            refine wpAnyK_pure 95 (v := ?_) (i := 11) (fuel := 17) rfl rfl (by kernel_rfl) (by kernel_rfl) (by kernel_rfl) (by decide) (fun _ _ _ h => h) (Or.inl ⟨by rfl, fun w _ => ?_⟩) ?_; rotate_left; (go_simp; with_reducible rfl); simp only [Act.put, List.setIfInBounds_toArray, List.set_cons_zero, List.set_cons_succ]
            refine wpAnyK_pure 96 (v := ?_) (i := 12) (fuel := 16) rfl rfl (by kernel_rfl) (by kernel_rfl) (by kernel_rfl) (by decide) (fun _ _ _ h => h) (Or.inl ⟨by rfl, fun w _ => ?_⟩) ?_; rotate_left; (go_simp; with_reducible rfl); simp only [Act.put, List.setIfInBounds_toArray, List.set_cons_zero, List.set_cons_succ]
            refine wpAnyK_pure 97 (v := ?_) (i := 13) (fuel := 15) rfl rfl (by kernel_rfl) (by kernel_rfl) (by kernel_rfl) (by decide) (fun _ _ _ h => h) (Or.inl ⟨by rfl, fun w _ => ?_⟩) ?_; rotate_left; (go_simp; with_reducible rfl); simp only [Act.put, List.setIfInBounds_toArray, List.set_cons_zero, List.set_cons_succ]
            refine wpAnyK_pure 98 (v := ?_) (i := 14) (fuel := 14) rfl rfl (by kernel_rfl) (by kernel_rfl) (by kernel_rfl) (by decide) (fun _ _ _ h => h) (Or.inl ⟨by rfl, fun w _ => ?_⟩) ?_; rotate_left; (go_simp; with_reducible rfl); simp only [Act.put, List.setIfInBounds_toArray, List.set_cons_zero, List.set_cons_succ]
            refine wpAnyK_pure 99 (v := ?_) (i := 15) (fuel := 13) rfl rfl (by kernel_rfl) (by kernel_rfl) (by kernel_rfl) (by decide) (fun _ _ _ h => h) (Or.inl ⟨by rfl, fun w _ => ?_⟩) ?_; rotate_left; (go_simp; with_reducible rfl); simp only [Act.put, List.setIfInBounds_toArray, List.set_cons_zero, List.set_cons_succ]
            refine wpAnyK_pure 100 (v := ?_) (i := 16) (fuel := 12) rfl rfl (by kernel_rfl) (by kernel_rfl) (by kernel_rfl) (by decide) (fun _ _ _ h => h) (Or.inl ⟨by rfl, fun w _ => ?_⟩) ?_; rotate_left; (go_simp; with_reducible rfl); simp only [Act.put, List.setIfInBounds_toArray, List.set_cons_zero, List.set_cons_succ]
            refine wpAnyK_pure 101 (v := ?_) (i := 17) (fuel := 11) rfl rfl (by kernel_rfl) (by kernel_rfl) (by kernel_rfl) (by decide) (fun _ _ _ h => h) (Or.inl ⟨by rfl, fun w _ => ?_⟩) ?_; rotate_left; (go_simp; with_reducible rfl); simp only [Act.put, List.setIfInBounds_toArray, List.set_cons_zero, List.set_cons_succ]
            refine wpAnyK_pure 102 (v := ?_) (i := 18) (fuel := 10) rfl rfl (by kernel_rfl) (by kernel_rfl) (by kernel_rfl) (by decide) (fun _ _ _ h => h) (Or.inl ⟨by rfl, fun w _ => ?_⟩) ?_; rotate_left; (go_simp; with_reducible rfl); simp only [Act.put, List.setIfInBounds_toArray, List.set_cons_zero, List.set_cons_succ]
            refine wpAnyK_pure 103 (v := ?_) (i := 19) (fuel := 9) rfl rfl (by kernel_rfl) (by kernel_rfl) (by kernel_rfl) (by decide) (fun _ _ _ h => h) (Or.inl ⟨by rfl, fun w _ => ?_⟩) ?_; rotate_left; (go_simp; with_reducible rfl); simp only [Act.put, List.setIfInBounds_toArray, List.set_cons_zero, List.set_cons_succ]
            refine wpAnyK_pure 104 (v := ?_) (i := 20) (fuel := 8) rfl rfl (by kernel_rfl) (by kernel_rfl) (by kernel_rfl) (by decide) (fun _ _ _ h => h) (Or.inl ⟨by rfl, fun w _ => ?_⟩) ?_; rotate_left; (go_simp; with_reducible rfl); simp only [Act.put, List.setIfInBounds_toArray, List.set_cons_zero, List.set_cons_succ]
            refine wpAnyK_pure 105 (v := ?_) (i := 21) (fuel := 7) rfl rfl (by kernel_rfl) (by kernel_rfl) (by kernel_rfl) (by decide) (fun _ _ _ h => h) (Or.inl ⟨by rfl, fun w _ => ?_⟩) ?_; rotate_left; (go_simp; with_reducible rfl); simp only [Act.put, List.setIfInBounds_toArray, List.set_cons_zero, List.set_cons_succ]
            refine wpAnyK_pure 106 (v := ?_) (i := 22) (fuel := 6) rfl rfl (by kernel_rfl) (by kernel_rfl) (by kernel_rfl) (by decide) (fun _ _ _ h => h) (Or.inl ⟨by rfl, fun w _ => ?_⟩) ?_; rotate_left; (go_simp; with_reducible rfl); simp only [Act.put, List.setIfInBounds_toArray, List.set_cons_zero, List.set_cons_succ]
            refine wpAnyK_pure 108 (v := ?_) (i := 24) (fuel := 5) rfl rfl (by kernel_rfl) (by kernel_rfl) (by kernel_rfl) (by decide) (fun _ _ _ h => h) (Or.inl ⟨by rfl, fun w _ => ?_⟩) ?_; rotate_left; (go_simp; with_reducible rfl); simp only [Act.put, List.setIfInBounds_toArray, List.set_cons_zero, List.set_cons_succ]
            refine wpAnyK_one (i := 23) (fuel := 4) rfl (by kernel_rfl) rfl (fun K hK => ?_)
            (go_simp; go_wp2_with (go_at_call 49; refine (dlinks_code h (by omega)).mono ?_; rw [HIDS.out]; clear h; rintro r w ⟨A5, c5, rfl, h⟩)); refine hK.out _ _ (fun _ => h.to) ?_; clear hK K
            try simp only [Act.put, List.setIfInBounds_toArray, List.set_cons_zero, List.set_cons_succ]
            refine wpAnyK_one (i := 25) (fuel := 3) rfl (by kernel_rfl) rfl (fun K hK => ?_)
            (go_simp; go_wp2_with (go_at_call 50; refine (dlinks_ref h (by omega)).mono ?_; rw [HIDS.out]; clear h; rintro r w ⟨A6, c6, rfl, h⟩)); refine hK.out _ _ (fun _ => h.to) ?_; clear hK K
            try simp only [Act.put, List.setIfInBounds_toArray, List.set_cons_zero, List.set_cons_succ]
            refine wpAnyK_one (i := 26) (fuel := 2) rfl (by kernel_rfl) rfl (fun K hK => ?_)
            (go_simp; go_wp2_with (go_at_call 48; refine (same_ids (h.sl A5 IDS.length c5) (h.sl A6 IDS.length c6) (by omega)).mono ?_; rw [decide_eq_true (rfl : IDS = IDS)]; rintro r w ⟨rfl, q, rfl⟩; replace h := h.quiet ((Step.refl (fun _ => False) _).drewN q))); refine hK.out _ _ (fun _ => h.to) ?_; clear hK K
            try simp only [Act.put, List.setIfInBounds_toArray, List.set_cons_zero, List.set_cons_succ]
            refine wpAnyK_pure 111 (v := ?_) (i := 27) (fuel := 1) rfl rfl (by kernel_rfl) (by kernel_rfl) (by kernel_rfl) (by decide) (fun _ _ _ h => h) (Or.inl ⟨by rfl, fun w _ => ?_⟩) ?_; rotate_left; (go_simp; with_reducible rfl); simp only [Act.put, List.setIfInBounds_toArray, List.set_cons_zero, List.set_cons_succ]
            refine wpAnyK_pure 112 (v := ?_) (i := 28) (fuel := 0) rfl rfl (by kernel_rfl) (by kernel_rfl) (by kernel_rfl) (by decide) (fun _ _ _ h => h) (Or.inl ⟨by rfl, fun w _ => ?_⟩) ?_; rotate_left; (go_simp; with_reducible rfl); simp only [Act.put, List.setIfInBounds_toArray, List.set_cons_zero, List.set_cons_succ]
            refine wpAnyK_done (by kernel_rfl) ?_; rw [noPanic_normal]
          all_goals
            replace h : St _ _ _ (eOwn 9 1 A1 acc.length c1 (acc.flatMap txc) :: [eBlk g8 4 [.bool false], eBlk gm 3 [.int .i64 most], eBlk ge 87 (enK ⟨eb, en, ek, ei, ey, er, ee⟩), eSl A l.length c 100 (l.flatMap enK)]) := h.to
            obtain ⟨M, hM⟩ : ∃ M, sortedS acc = M := ⟨_, rfl⟩
            have HM := Lib.hid hM
            have hMl : M.length ≤ 1000 := by
              rw [← hM, (sortedS_perm acc).length_eq]
              omega
            have HMs := Lib.hid (show sortS (namesE l) = M by rw [Hac.out, ← hM]; exact sortS_eq acc)
            clear hM
            go_wp2_with (first
              | (go_at_call 51; refine (sorted_ref (A := A1) (c := c1) (l := acc) h (by omega)).mono ?_; rw [HM.out]; clear h; rintro r w ⟨A9, c9, rfl, h⟩)
              | (refine wl_at 15 rfl ?_; refine wl_runs rfl (ex_alloc h 100 rfl) ?_; clear h; rintro _ w ⟨g15, rfl, h⟩)
              | (refine wl_at 16 rfl ?_; refine wl_runs rfl (ex_alloc h 3 rfl) ?_; clear h; rintro _ w ⟨g16, rfl, h⟩)
              | (refine wl_none rfl ?_; refine wl_runs rfl (ex_store1s h _ _ _ rfl _ _ rfl _ _ _ rfl) ?_; clear h; rintro _ w ⟨rfl, h⟩; try dsimp only [Act.put])
              | (refine wl_none rfl ?_; refine wl_runs rfl (ex_store1i h _ _ _ rfl _ _ rfl _ _ rfl) ?_; clear h; rintro _ w ⟨rfl, h⟩; try dsimp only [Act.put])
              | (go_at_call 52; refine (names_make h).mono ?_; clear h; rintro r w ⟨gb, rfl, h⟩))
            replace h : St (fun _ => False) w0 w (AL gb A c l [] ++ (eBlk g16 3 [.int .i64 0] :: ChRest A9 c9 M g15 gm g8 most false)) := St.to (L' := eBlk gb 22 [.slice A l.length c] :: eSl A l.length c 100 (l.flatMap enK) :: eBlk g16 3 [.int .i64 0] :: eBlk g15 100 [.slice A9 M.length c9] :: eOwn 9 1 A9 M.length c9 (M.flatMap txc) :: eBlk gm 3 [.int .i64 most] :: eBlk g8 4 [.bool false] :: []) h
            refine wp_iter rfl (enters_of Try.func94 (by kernel_rfl) rfl) (names_iters (by omega)) (fun _ => rfl) h (ChM g16 M (ChRest A9 c9 M g15 gm g8 most false)) (ChMx g16 (ChRest A9 c9 M g15 gm g8 most true)) (ChAx g16 M (ChRest A9 c9 M g15 gm g8 most false)) ⟨List.nil_prefix, rfl⟩ ?assign ?body ?done ?stop
            case assign =>
              rintro l' T' X O R' pre x L W' ⟨hpr, rfl⟩ _ h
              rw [zip1]
              simp only [List.setIfInBounds_toArray, List.set_cons_succ, List.set_cons_zero]
              gi_wp2
              exact ⟨_, ⟨rfl, hpr, rfl⟩, h⟩
            case body =>
              rintro l' T' X O R' pre x a' L W' W2 ⟨rfl, hpr, rfl⟩ hok h
              simp only [List.setIfInBounds_toArray, List.set_cons_succ, List.set_cons_zero]
              rw [HMs.out] at hok
              have hpl : pre.length < M.length := by have := hok.length_le; simp at this; omega
              have hxM : M[pre.length] = x := by
                have e := hok.getElem (i := pre.length) (by simp)
                rw [List.getElem_concat_length rfl] at e
                exact e.symm
              unfold ChRest at h
              by_cases hst : (pre.length : Int) = most
              · have f5 : ((pre.length : Int) == most) = true := by simp [hst]
                clear hst
                gi_wp2_with (first
                  | (refine wi_runs rfl (ex_store1b h _ _ _ rfl _ _ rfl _ rfl) ?_; clear h; rintro _ w ⟨rfl, h⟩; try dsimp only [Act.put])
                  | (refine wi_reads rfl (ex_loadv h _ _ rfl _ _ rfl) ?_))
                exact ⟨_, ⟨rfl, (pre.length : Int), rfl⟩, by unfold ChRest; exact h.to⟩
              · have f5 : ((pre.length : Int) == most) = false := by simp [hst]
                have f6 : decide ((M.length : Int) ≤ (pre.length : Int)) = false := by simp; omega
                have f6n : decide (M.length ≤ pre.length) = false := by simp; omega
                have f7 : (0 : Int) ≤ (pre.length : Int) := by omega
                have f8 : (pre.length : Int) < (M.length : Int) := by omega
                have t8 : ((pre.length : Int)).toNat = pre.length := by omega
                obtain ⟨b9, o9, rfl, _⟩ := (h.sl A9 M.length c9).pos (by omega)
                have Hc9 := Lib.hid (fun w hs => by
                  have h5 := hs.elemAt txc_length hpl (by omega)
                  rw [hxM, Nat.mul_one] at h5
                  simpa using h5 0 (.string (str x)) rfl : ∀ w, Sl w (some ⟨b9, o9, none⟩) M.length c9 1 (M.flatMap txc) → w.cell? ⟨b9, o9 + pre.length, none⟩ = some (.string (str x)))
                have hxx : (!((str x).toList == (str x).toList)) = false := by simp
                have Hok := Lib.hid hok
                clear hst hok hpr hxM
                gi_wp2_with (first
                  | (refine wl_at 130 rfl ?_; refine wi_reads rfl (ex_load1_at _ _ rfl b9 (o9 + pre.length) rfl (.string (str x)) (Hc9.out _ (h.sl (some ⟨b9, o9, none⟩) M.length c9))) ?_)
                  | (refine wi_reads rfl (ex_load1_at _ _ rfl b9 (o9 + pre.length) rfl (.string (str x)) (Hc9.out _ (h.sl (some ⟨b9, o9, none⟩) M.length c9))) ?_)
                  | (refine wi_runs rfl (ex_store1i h _ _ _ rfl _ _ rfl _ _ rfl) ?_; clear h; rintro _ w ⟨rfl, h⟩; try dsimp only [Act.put])
                  | (refine wi_reads rfl (ex_loadv h _ _ rfl _ _ rfl) ?_))
                refine ⟨_, ⟨Hok.out, rfl⟩, ?_⟩
                unfold ChRest
                rw [show ((pre ++ [x]).length : Int) = (pre.length : Int) + 1 by simp]
                exact h.to
            case done =>
              rintro D9 pre L Lf W' ⟨hpr, rfl⟩ ⟨rfl, hp⟩ h
              obtain rfl := hp rfl
              rw [HMs.out] at h
              unfold ChRest at h
              replace h : St (fun _ => False) w0 W' (eDfr D9 :: eBlk gb 22 [.slice A l.length c] :: eSl A l.length c 100 (l.flatMap enK) :: eBlk g16 3 [.int .i64 (M.length : Int)] :: eBlk g15 100 [.slice A9 M.length c9] :: eOwn 9 1 A9 M.length c9 (M.flatMap txc) :: eBlk gm 3 [.int .i64 most] :: eBlk g8 4 [.bool false] :: []) := h
              have f9 : ((M.length : Int) == (M.length : Int)) = true := by simp
              go_wp2_with (first
                | (refine wl_runs rfl (ex_store1b h _ _ _ rfl _ _ rfl _ rfl) ?_; clear h; rintro _ w ⟨rfl, h⟩; try dsimp only [Act.put])
                | (refine wl_reads rfl (ex_loadv h _ _ rfl _ _ rfl) ?_))
              have h5 := h.putDfr (D := D9)
              exact ret_mark h.dfr rfl (res_cell1 rfl rfl (h5.loadVar1 4 g8 0)) ⟨rfl, h5.step.below⟩
            case stop =>
              rintro D9 c' pre L Lf W' ⟨rfl, v, rfl⟩ ⟨rfl, _⟩ h
              unfold ChRest at h
              replace h : St (fun _ => False) w0 W' (eDfr D9 :: eBlk gb 22 [.slice A l.length c] :: eSl A l.length c 100 (l.flatMap enK) :: eBlk g16 3 [.int .i64 v] :: eBlk g15 100 [.slice A9 M.length c9] :: eOwn 9 1 A9 M.length c9 (M.flatMap txc) :: eBlk gm 3 [.int .i64 most] :: eBlk g8 4 [.bool true] :: []) := h
              go_wp2
              have h5 := h.putDfr (D := D9)
              exact ret_mark h.dfr rfl (res_cell1 rfl rfl (h5.loadVar1 4 g8 0)) ⟨rfl, h5.step.below⟩
theorem walk_DirChanges {w0 : World} {l : List En} {A : Option Addr} {m c : Nat} (ha : Sl w0 A m c 100 (l.flatMap enK)) (ho : ∀ e ∈ l, EnOk e) {e : En} (he : EnOk e) {n : List UInt8} (_ : n.length ≤ maxLen) {most : Int} (_ : (Lit.int .i64 most).wf = true) :
    Calls Try.prog 12 #[.slice A m c, .agg (enK e).toArray, .string (str n), .int .i64 most] w0 fun r w' => r = .returned (.bool true) ∧ Below w0.heap.size w0 w' := by
  have hn : m = l.length := ha.n_flat enK_length (by omega)
  rw [hn] at ha
  rw [hn]
  exact walk_DirChanges0 ha ho he
end Go.Proofs.Ytnokgejmlpmgfaa
