/- route.Split: the names of a path, or what is wrong with it. -/
import Derived.Test.YtplcoielgencfaaProg
import Derived.Test.YtplcoielgencfaaCPieces
import Derived.Test.YtplcoielgencfaaCGood
import Derived.Test.YtplcoielgencfaaCB1
namespace Go.Proofs.Ytplcoielgencfaa
open Go.RowKit
attribute [local go_sem] Oper.semAt_some


/-- The names of a path; the error's number. -/
def splitM (l : List UInt8) : List (List UInt8) × Int :=
  if l = [] then ([], 0) else if 16 < (pcs [] l).length then ([], 101) else if (pcs [] l).all goodM then (pcs [] l, 0) else ([], 100)

theorem pieces_make {w : World} {l : List UInt8} : Calls Try.prog 22 #[.string (str l)] w fun e w' =>
    e = .returned (.func (.func 26) #[] #[.pointer (some ⟨w.heap.size, 0, none⟩)]) ∧ w'.cell? ⟨w.heap.size, 0, none⟩ = some (.string (str l)) ∧ Step (fun _ => False) w w' ∧ w'.heap.size = w.heap.size + 1 := by
  go_enter Try.func22, Try.ntmps22
  go_wp2
  go_ret
  exact ⟨rfl, (Blk.new w _ _).cell 0, (Step.refl _ _).alloc _, by simp⟩

theorem string_size : (Try.prog.info? 9).map (·.size) = some 1 := by kernel_rfl
theorem strings_size : (Try.prog.info? 25).map (·.size) = some 1 := by kernel_rfl
theorem errno_size : (Try.prog.info? 26).map (·.size) = some 1 := by kernel_rfl
theorem string_parts : (Try.prog.info? 9).map (fun i => (i.zero, i.size, i.bytes)) = some (some (.string ⟨#[]⟩), 1, 16) := by kernel_rfl

/-- What the loop over the pieces keeps. -/
def SplitRel (w : World) (b z : Nat) (pre : List (List UInt8)) (W : World) : Prop :=
  ∃ A n c, pre.length ≤ 16 ∧ Blk W b 25 #[.slice none 0 0] ∧ Blk W (b + 1) 26 #[.int .i64 0] ∧ Blk W (b + 1 + 1) 25 #[.slice A n c] ∧ Blk W (b + 1 + 1 + 1) 26 #[.int .i64 (if pre.all goodM then 0 else 100)] ∧
    Own W 9 1 A n c (strs pre) ∧ (∀ k, At A k → b + 5 ≤ k) ∧ Step (fun _ => False) w W ∧ z ≤ W.heap.size

set_option maxRecDepth 100000 in
set_option maxHeartbeats 1600000 in
theorem split_code {w : World} {l : List UInt8} (hl : l.length ≤ 1000000000) :
    Calls Try.prog 12 #[.string (str l)] w fun e w' => ∃ A n c, e = .returned (.tuple #[.slice A n c, .int .i64 (splitM l).2]) ∧ Sl w' A n c 1 (strs (splitM l).1) ∧ Step (fun _ => False) w w' ∧ (∀ k, At A k → w.heap.size ≤ k) := by
  have hsz := str_size l
  have hda := str_toList l
  refine callsIn_wide.1 (callsIn_of_wp_marks (F := Fence.wide) (n := 3) Try.func12 rfl trivial ?_ rfl)
  simp only [Try.ntmps12, List.size_toArray, List.length_cons, List.length_nil, Nat.reduceAdd, Nat.reduceSub, Array.replicate_succ, Array.replicate_zero, List.push_toArray, List.append_toArray, List.nil_append, List.cons_append]
  refine wpIn_wide.2 ?_
  by_cases h0 : l = []
  · subst h0
    go_wp2
    have hS : Step (fun _ => False) w ((w.alloc (.cells #[.slice none 0 0] 25)).alloc (.cells #[.int .i64 0] 26)) := ((Step.refl _ _).alloc _).alloc _
    have hb1 : Blk ((w.alloc (.cells #[.slice none 0 0] 25)).alloc (.cells #[.int .i64 0] 26)) w.heap.size 25 #[.slice none 0 0] := (Blk.new w _ _).alloc _
    have hb2 : Blk ((w.alloc (.cells #[.slice none 0 0] 25)).alloc (.cells #[.int .i64 0] 26)) (w.heap.size + 1) 26 #[.int .i64 0] := by
      have := Blk.new (w.alloc (.cells #[.slice none 0 0] 25)) 26 #[.int .i64 0]
      rwa [World.size_alloc] at this
    refine ret_plain (res_cell2 rfl rfl rfl (load_one Try.underlying25 rfl (hb1.cell 0)) (load_one Try.underlying26 rfl (hb2.cell 0))) rfl ?_
    exact ⟨none, 0, 0, rfl, Sl.nil _ _, hS, fun k hk => (at_nil hk).elim⟩
  · have hne : l.isEmpty = false := by
      cases l with
      | nil => exact absurd rfl h0
      | cons => rfl
    obtain ⟨w4, hw4⟩ : ∃ w4, (((w.alloc (.cells #[.slice none 0 0] 25)).alloc (.cells #[.int .i64 0] 26)).alloc (.cells #[.slice none 0 0] 25)).alloc (.cells #[.int .i64 0] 26) = w4 := ⟨_, rfl⟩
    have hR4 : SplitRel w w.heap.size 0 [] w4 := by
      subst hw4
      have h1 := (((Blk.new w 25 #[.slice none 0 0]).alloc (.cells #[.int .i64 0] 26)).alloc (.cells #[.slice none 0 0] 25)).alloc (.cells #[.int .i64 0] 26)
      have h2 := ((Blk.new (w.alloc (.cells #[.slice none 0 0] 25)) 26 #[.int .i64 0]).alloc (.cells #[.slice none 0 0] 25)).alloc (.cells #[.int .i64 0] 26)
      have h3 := (Blk.new ((w.alloc (.cells #[.slice none 0 0] 25)).alloc (.cells #[.int .i64 0] 26)) 25 #[.slice none 0 0]).alloc (.cells #[.int .i64 0] 26)
      have h4 := Blk.new (((w.alloc (.cells #[.slice none 0 0] 25)).alloc (.cells #[.int .i64 0] 26)).alloc (.cells #[.slice none 0 0] 25)) 26 #[.int .i64 0]
      simp only [World.size_alloc] at h2 h3 h4
      exact ⟨none, 0, 0, by simp, h1, h2, h3, h4, Own.nil _ _ _, fun k hk => (at_nil hk).elim, ((((Step.refl _ _).alloc _).alloc _).alloc _).alloc _, Nat.zero_le _⟩
    have hz4 : w4.heap.size = w.heap.size + 4 := by subst hw4; simp
    have Hw4 := Lib.hid hw4
    clear hw4
    go_wp2_with (go_at_call 22; refine pieces_make.mono ?_; rintro e w5 ⟨rfl, hc5, hS5, hz5⟩; rw [Hw4.out] at hc5 hS5 hz5)
    rw [hz4] at hc5 hz5
    have hR5 : SplitRel w w.heap.size (w.heap.size + 5) [] w5 := by
      obtain ⟨A, n, c, h1, h2, h3, h4, h5, h6, h7, h8, _⟩ := hR4
      exact ⟨A, n, c, h1, h2.step hS5 id, h3.step hS5 id, h4.step hS5 id, h5.step hS5 id, h6.keep hS5, h7, h8.tr hS5, by omega⟩
    refine wp_range rfl (enters_of Try.func26 (by kernel_rfl) rfl) (pieces_tells (Bn := w.heap.size + 4) hc5 (by omega) hl) (fun _ => rfl)
      (SplitRel w w.heap.size (w.heap.size + 5)) (fun c pre W => c = .ret ∧ 16 < pre.length ∧ Blk W w.heap.size 25 #[.slice none 0 0] ∧ Blk W (w.heap.size + 1) 26 #[.int .i64 101] ∧ Step (fun _ => False) w W)
      ?hI ?hIx hR5 (fun x => { tmps := #[.string (str l), undef, .pointer (some ⟨w.heap.size, 0, none⟩), .pointer (some ⟨w.heap.size + 1, 0, none⟩), .pointer (some ⟨w.heap.size + 1 + 1, 0, none⟩), .pointer (some ⟨w.heap.size + 1 + 1 + 1, 0, none⟩), .string (str x), .string (str l), .bool false, .string (str l), .func (.func 26) #[] #[.pointer (some ⟨w.heap.size + 1 + 1 + 1 + 1, 0, none⟩)], .string (str x), undef, undef, undef, undef, undef, undef, undef, undef, undef, undef, undef, undef, undef, undef], defers := [] }) ?assign ?body ?done ?stop
    case hI =>
      rintro s w1 w2 ⟨A, n, c, h1, h2, h3, h4, h5, h6, h7, h8, h9⟩ hL
      exact ⟨A, n, c, h1, hL.blk h2, hL.blk h3, hL.blk h4, hL.blk h5, hL.own h6, h7, hL.step h8 (by omega), Nat.le_trans h9 hL.size⟩
    case hIx =>
      rintro c s w1 w2 ⟨rfl, h1, h2, h3, h4⟩ hL
      exact ⟨rfl, h1, hL.blk h2, hL.blk h3, hL.step h4 (by omega)⟩
    case assign =>
      intro l x W K hK
      gi_wp2
      exact hK
    case body =>
      rintro l pre x W ⟨A, n, c, h1, h2, h3, h4, h5, h6, h7, h8, hWsz⟩ hlen
      obtain ⟨i0, hi0, hz0, hz1, hz2⟩ := info_parts string_parts
      have hn6 : n = pre.length := by have := h6.sl.len; simp [strs] at this; omega
      subst hn6
      have hx1 : ∀ W : World, Sl ((W.alloc (.cells #[.string (str x)] 9))) (some ⟨W.heap.size, 0, none⟩) 1 1 1 [strv x] := fun W => ⟨rfl, Nat.le_refl _, by simp [maxLen], fun _ => ⟨_, 0, rfl, by simp, by
        intro i u hu
        rw [Nat.zero_add]
        exact ((Blk.new W _ _).cell i).trans (by simpa [strv] using hu)⟩⟩
      have hA1 : ¬ At A w.heap.size := fun h => by have := h7 _ h; omega
      have hA3 : ¬ At A (w.heap.size + 1) := fun h => by have := h7 _ h; omega
      have hA4 : ¬ At A (w.heap.size + 1 + 1) := fun h => by have := h7 _ h; omega
      have hA5 : ¬ At A (w.heap.size + 1 + 1 + 1) := fun h => by have := h7 _ h; omega
      have hA5' : ∀ k, At A k → ¬ k = w.heap.size + 1 + 1 + 1 := fun k h e => hA5 (e ▸ h)
      have hall : (pre ++ [x]).all goodM = (pre.all goodM && goodM x) := by simp
      obtain ⟨S, hSdef⟩ : ∃ S : Nat → Prop, S = fun k => k = w.heap.size ∨ k = w.heap.size + 1 ∨ k = w.heap.size + 1 + 1 ∨ k = w.heap.size + 1 + 1 + 1 ∨ At A k := ⟨_, rfl⟩
      have hS2 : ∀ k, k = w.heap.size → S k := fun k e => by rw [hSdef]; exact .inl e
      have hS3 : ∀ k, k = w.heap.size + 1 → S k := fun k e => by rw [hSdef]; exact .inr (.inl e)
      have hS4 : ∀ k, k = w.heap.size + 1 + 1 → S k := fun k e => by rw [hSdef]; exact .inr (.inr (.inl e))
      have hS5 : ∀ k, k = w.heap.size + 1 + 1 + 1 → S k := fun k e => by rw [hSdef]; exact .inr (.inr (.inr (.inl e)))
      have hSA : ∀ k, At A k → S k := fun k e => by rw [hSdef]; exact .inr (.inr (.inr (.inr e)))
      have hSc : ∀ k (o : Obj), S k → W.heap[k]? = some o → o.isCells = true := by
        intro k o hk ho
        rw [hSdef] at hk
        rcases hk with rfl | rfl | rfl | rfl | hk
        · exact h2.isCells ho
        · exact h3.isCells ho
        · exact h4.isCells ho
        · exact h5.isCells ho
        · exact h6.isCells hk ho
      have hSk : ∀ k, k = w.heap.size + 4 → ¬ S k := by
        rintro k rfl hk
        rw [hSdef] at hk
        rcases hk with h | h | h | h | h
        · omega
        · omega
        · omega
        · omega
        · have := h7 _ h; omega
      have hSw : ∀ i, i < w.heap.size → S i → False := by
        intro i hi hk
        rw [hSdef] at hk
        rcases hk with h | h | h | h | h
        · omega
        · omega
        · omega
        · omega
        · have := h7 _ h; omega
      have hWz : w.heap.size + 5 ≤ W.heap.size := hWsz
      clear hSdef
      by_cases hg : goodM x = true
      · by_cases h16 : 16 ≤ pre.length
        · gi_wp2_with (first
            | (refine ⟨trivial, ?_⟩; gi_at_call 8; refine (CallsIn.inRound l (callsIn_wide.2 good_code)).mono ?_; rintro e w6 ⟨rfl, hS6⟩; have c4 := (h4.step hS6 id).cell 0)
            | (gi_at_builtin; go_loud (refine wi_append _ rfl _ _ 25 rfl 9 i0 _ 1 16 Try.underlying25 hi0 hz0 hz1 hz2 rfl (by decide) A pre.length c (strs pre) rfl ((h6.keep hS6).alloc _) _ 1 1 [strv x] rfl (hx1 _) (by simp [strv, Value.oneCell']) (by simp [maxLen]; omega) (by omega) ?_); intro A' c' w7 hown7 hS7 hat7)
            | (refine wi_put _ rfl 25 _ _ rfl (w.heap.size + 1 + 1) 0 rfl (.slice A' (pre.length + 1) c') rfl rfl rfl strings_size 25 #[.slice A pre.length c] (((h4.step hS6 id).alloc _).step hS7 hA4) (by simp) ?_; intro w8 hb8 hS8; have c8 : w8.cell? ⟨w.heap.size + 1 + 1, 0, none⟩ = some (.slice A' (pre.length + 1) c') := hb8.cell 0)
            | (refine wi_put _ rfl 25 _ _ rfl w.heap.size 0 rfl (.slice none 0 0) rfl rfl rfl strings_size 25 #[.slice none 0 0] ((((h2.step hS6 id).alloc _).step hS7 hA1).step hS8 (by omega)) (by simp) ?_; intro w9 hb9 hS9)
            | (refine wi_put _ rfl 26 _ _ rfl (w.heap.size + 1) 0 rfl (.int .i64 101) rfl rfl rfl errno_size 26 #[.int .i64 0] (((((h3.step hS6 id).alloc _).step hS7 hA3).step hS8 (by omega)).step hS9 (by omega)) (by simp) ?_; intro w10 hb10 hS10))
          have hSS : Step S W w8 := (((hS6.mono (T := S) (fun _ _ h => h.elim)).alloc _).trans hS7 (fun i _ e => hSA i e)).trans hS8 (fun i _ e => hS4 i e)
          have hST : Step S W w10 := (hSS.trans hS9 (fun i _ e => hS2 i e)).trans hS10 (fun i _ e => hS3 i e)
          exact ⟨hST.keepsFrom hSc, rfl, by simp; omega, hb9.step hS10 (by omega), hb10, h8.trans hST (fun i hi e => hSw i hi e)⟩
        · gi_wp2_with (first
            | (refine ⟨trivial, ?_⟩; gi_at_call 8; refine (CallsIn.inRound l (callsIn_wide.2 good_code)).mono ?_; rintro e w6 ⟨rfl, hS6⟩; have c4 := (h4.step hS6 id).cell 0)
            | (gi_at_builtin; go_loud (refine wi_append _ rfl _ _ 25 rfl 9 i0 _ 1 16 Try.underlying25 hi0 hz0 hz1 hz2 rfl (by decide) A pre.length c (strs pre) rfl ((h6.keep hS6).alloc _) _ 1 1 [strv x] rfl (hx1 _) (by simp [strv, Value.oneCell']) (by simp [maxLen]; omega) (by omega) ?_); intro A' c' w7 hown7 hS7 hat7)
            | (refine wi_put _ rfl 25 _ _ rfl (w.heap.size + 1 + 1) 0 rfl (.slice A' (pre.length + 1) c') rfl rfl rfl strings_size 25 #[.slice A pre.length c] (((h4.step hS6 id).alloc _).step hS7 hA4) (by simp) ?_; intro w8 hb8 hS8; have c8 : w8.cell? ⟨w.heap.size + 1 + 1, 0, none⟩ = some (.slice A' (pre.length + 1) c') := hb8.cell 0))
          have hSS : Step S W w8 := (((hS6.mono (T := S) (fun _ _ h => h.elim)).alloc _).trans hS7 (fun i _ e => hSA i e)).trans hS8 (fun i _ e => hS4 i e)
          refine ⟨hSS.keepsFrom hSc, hSS.keeps hSk, A', pre.length + 1, c', by simp; omega, (((h2.step hS6 id).alloc _).step hS7 hA1).step hS8 (by omega), (((h3.step hS6 id).alloc _).step hS7 hA3).step hS8 (by omega), hb8, ?_, ?_, ?_, h8.trans hSS (fun i hi e => hSw i hi e), Nat.le_trans hWz hSS.size⟩
          · have := ((((h5.step hS6 id).alloc _).step hS7 hA5).step hS8 (by omega))
            rw [hall, hg]
            simpa using this
          · rw [show strs (pre ++ [x]) = strs pre ++ [strv x] by simp [strs]]
            exact hown7.step hS8 (fun k hk e => by rcases hat7 k hk with h | h; exact hA4 (e ▸ h); have := hS6.size; simp at h; omega)
          · intro k hk
            rcases hat7 k hk with h | h
            · exact h7 k h
            · have := hS6.size; simp at h; omega
      · replace hg : goodM x = false := by simpa using hg
        by_cases h16 : 16 ≤ pre.length
        · gi_wp2_with (first
            | (refine ⟨trivial, ?_⟩; gi_at_call 8; refine (CallsIn.inRound l (callsIn_wide.2 good_code)).mono ?_; rintro e w6 ⟨rfl, hS6⟩)
            | (refine wi_put _ rfl 26 _ _ rfl (w.heap.size + 1 + 1 + 1) 0 rfl (.int .i64 100) rfl rfl rfl errno_size 26 #[.int .i64 (if pre.all goodM then 0 else 100)] (h5.step hS6 id) (by simp) ?_; intro w6' hb6 hS6'; have c4 := ((h4.step hS6 id).step hS6' (by omega)).cell 0)
            | (gi_at_builtin; go_loud (refine wi_append _ rfl _ _ 25 rfl 9 i0 _ 1 16 Try.underlying25 hi0 hz0 hz1 hz2 rfl (by decide) A pre.length c (strs pre) rfl (((h6.keep hS6).step hS6' hA5').alloc _) _ 1 1 [strv x] rfl (hx1 _) (by simp [strv, Value.oneCell']) (by simp [maxLen]; omega) (by omega) ?_); intro A' c' w7 hown7 hS7 hat7)
            | (refine wi_put _ rfl 25 _ _ rfl (w.heap.size + 1 + 1) 0 rfl (.slice A' (pre.length + 1) c') rfl rfl rfl strings_size 25 #[.slice A pre.length c] ((((h4.step hS6 id).step hS6' (by omega)).alloc _).step hS7 hA4) (by simp) ?_; intro w8 hb8 hS8; have c8 : w8.cell? ⟨w.heap.size + 1 + 1, 0, none⟩ = some (.slice A' (pre.length + 1) c') := hb8.cell 0)
            | (refine wi_put _ rfl 25 _ _ rfl w.heap.size 0 rfl (.slice none 0 0) rfl rfl rfl strings_size 25 #[.slice none 0 0] (((((h2.step hS6 id).step hS6' (by omega)).alloc _).step hS7 hA1).step hS8 (by omega)) (by simp) ?_; intro w9 hb9 hS9)
            | (refine wi_put _ rfl 26 _ _ rfl (w.heap.size + 1) 0 rfl (.int .i64 101) rfl rfl rfl errno_size 26 #[.int .i64 0] ((((((h3.step hS6 id).step hS6' (by omega)).alloc _).step hS7 hA3).step hS8 (by omega)).step hS9 (by omega)) (by simp) ?_; intro w10 hb10 hS10))
          have hSS : Step S W w8 := ((((hS6.mono (T := S) (fun _ _ h => h.elim)).trans hS6' (fun i _ e => hS5 i e)).alloc _).trans hS7 (fun i _ e => hSA i e)).trans hS8 (fun i _ e => hS4 i e)
          have hST : Step S W w10 := (hSS.trans hS9 (fun i _ e => hS2 i e)).trans hS10 (fun i _ e => hS3 i e)
          exact ⟨hST.keepsFrom hSc, rfl, by simp; omega, hb9.step hS10 (by omega), hb10, h8.trans hST (fun i hi e => hSw i hi e)⟩
        · gi_wp2_with (first
            | (refine ⟨trivial, ?_⟩; gi_at_call 8; refine (CallsIn.inRound l (callsIn_wide.2 good_code)).mono ?_; rintro e w6 ⟨rfl, hS6⟩)
            | (refine wi_put _ rfl 26 _ _ rfl (w.heap.size + 1 + 1 + 1) 0 rfl (.int .i64 100) rfl rfl rfl errno_size 26 #[.int .i64 (if pre.all goodM then 0 else 100)] (h5.step hS6 id) (by simp) ?_; intro w6' hb6 hS6'; have c4 := ((h4.step hS6 id).step hS6' (by omega)).cell 0)
            | (gi_at_builtin; go_loud (refine wi_append _ rfl _ _ 25 rfl 9 i0 _ 1 16 Try.underlying25 hi0 hz0 hz1 hz2 rfl (by decide) A pre.length c (strs pre) rfl (((h6.keep hS6).step hS6' hA5').alloc _) _ 1 1 [strv x] rfl (hx1 _) (by simp [strv, Value.oneCell']) (by simp [maxLen]; omega) (by omega) ?_); intro A' c' w7 hown7 hS7 hat7)
            | (refine wi_put _ rfl 25 _ _ rfl (w.heap.size + 1 + 1) 0 rfl (.slice A' (pre.length + 1) c') rfl rfl rfl strings_size 25 #[.slice A pre.length c] ((((h4.step hS6 id).step hS6' (by omega)).alloc _).step hS7 hA4) (by simp) ?_; intro w8 hb8 hS8; have c8 : w8.cell? ⟨w.heap.size + 1 + 1, 0, none⟩ = some (.slice A' (pre.length + 1) c') := hb8.cell 0))
          have hSS : Step S W w8 := ((((hS6.mono (T := S) (fun _ _ h => h.elim)).trans hS6' (fun i _ e => hS5 i e)).alloc _).trans hS7 (fun i _ e => hSA i e)).trans hS8 (fun i _ e => hS4 i e)
          refine ⟨hSS.keepsFrom hSc, hSS.keeps hSk, A', pre.length + 1, c', by simp; omega, ((((h2.step hS6 id).step hS6' (by omega)).alloc _).step hS7 hA1).step hS8 (by omega), ((((h3.step hS6 id).step hS6' (by omega)).alloc _).step hS7 hA3).step hS8 (by omega), hb8, ?_, ?_, ?_, h8.trans hSS (fun i hi e => hSw i hi e), Nat.le_trans hWz hSS.size⟩
          · have := (((hb6.alloc _).step hS7 hA5).step hS8 (by omega))
            rw [hall, hg]
            simpa using this
          · rw [show strs (pre ++ [x]) = strs pre ++ [strv x] by simp [strs]]
            exact hown7.step hS8 (fun k hk e => by rcases hat7 k hk with h | h; exact hA4 (e ▸ h); have := hS6.size; have := hS6'.size; simp at h; omega)
          · intro k hk
            rcases hat7 k hk with h | h
            · exact h7 k h
            · have := hS6.size; have := hS6'.size; simp at h; omega
    case done =>
      rintro D W hD ⟨A, n, c, h1, h2, h3, h4, h5, h6, h7, h8, h9⟩ hK
      have hDb : w.heap.size + 5 ≤ D := by omega
      by_cases hall : (pcs [] l).all goodM = true
      · rw [if_pos hall] at h5
        have c5 : W.cell? ⟨w.heap.size + 1 + 1 + 1, 0, none⟩ = some (.int .i64 0) := h5.cell 0
        have c4 : W.cell? ⟨w.heap.size + 1 + 1, 0, none⟩ = some (.slice A n c) := h4.cell 0
        go_wp2_with (first
          | (refine wl_put _ rfl 25 _ _ rfl w.heap.size 0 rfl (.slice A n c) rfl rfl rfl strings_size 25 #[.slice none 0 0] h2 (by simp) ?_; intro w9 hb9 hS9)
          | (refine wl_put _ rfl 26 _ _ rfl (w.heap.size + 1) 0 rfl (.int .i64 0) rfl rfl rfl errno_size 26 #[.int .i64 0] (h3.step hS9 (by omega)) (by simp) ?_; intro w10 hb10 hS10))
        have hK' : w10.heap[D]? = some (.deferred (some [])) := by
          rw [hS10.block D (by have := hS9.size; have := (Array.getElem?_eq_some_iff.1 hK).1; omega) (by omega), hS9.block D (Array.getElem?_eq_some_iff.1 hK).1 (by omega)]
          exact hK
        have hL := loose_put (B := w.heap.size) (.deferred none) (by omega) hK' rfl
        refine ret_mark hK' rfl (res_cell2 rfl rfl rfl (load_one Try.underlying25 rfl ((hL.blk (hb9.step hS10 (by omega))).cell 0)) (load_one Try.underlying26 rfl ((hL.blk hb10).cell 0))) ?_
        rw [show splitM l = (pcs [] l, 0) by rw [splitM, if_neg h0, if_neg (by omega), if_pos hall]]
        refine ⟨A, n, c, rfl, hL.sl (((h6.sl).step hS9 ?_).step hS10 ?_), hL.step ((h8.trans hS9 (fun i hi e => by omega)).trans hS10 (fun i hi e => by omega)) (Nat.le_refl _), fun k hk => by have := h7 k hk; omega⟩
        · intro k hk e
          have := h7 k hk.at_
          omega
        · intro k hk e
          have := h7 k hk.at_
          omega
      · rw [if_neg hall] at h5
        have c5 : W.cell? ⟨w.heap.size + 1 + 1 + 1, 0, none⟩ = some (.int .i64 100) := h5.cell 0
        have c2 : W.cell? ⟨w.heap.size, 0, none⟩ = some (.slice none 0 0) := h2.cell 0
        have c3 : W.cell? ⟨w.heap.size + 1, 0, none⟩ = some (.int .i64 0) := h3.cell 0
        have f2 := h2.frozen 0
        have f3 := h3.frozen 0
        go_wp2
        go_region
        go_wp2
        have hb9 : Blk (((W.setCell ⟨w.heap.size, 0, none⟩ (.slice none 0 0)).setCell ⟨w.heap.size + 1, 0, none⟩ (.int .i64 100)).drew) w.heap.size 25 #[.slice none 0 0] := ((h2.set_ 0 (.slice none 0 0)).far (by show w.heap.size ≠ w.heap.size + 1; omega) _).drew
        have hb10 : Blk (((W.setCell ⟨w.heap.size, 0, none⟩ (.slice none 0 0)).setCell ⟨w.heap.size + 1, 0, none⟩ (.int .i64 100)).drew) (w.heap.size + 1) 26 #[.int .i64 100] := ((h3.far (p := ⟨w.heap.size, 0, none⟩) (by show w.heap.size + 1 ≠ w.heap.size; omega) _).set_ 0 _).drew
        have hS : Step (fun k => k = w.heap.size ∨ k = w.heap.size + 1) W (((W.setCell ⟨w.heap.size, 0, none⟩ (.slice none 0 0)).setCell ⟨w.heap.size + 1, 0, none⟩ (.int .i64 100)).drew) :=
          (((Step.refl _ _).setCell (p := ⟨w.heap.size, 0, none⟩) (.inl (.inl rfl)) _).setCell (p := ⟨w.heap.size + 1, 0, none⟩) (.inl (.inr rfl)) _).drew
        obtain ⟨w10, hw10⟩ : ∃ w10, ((W.setCell ⟨w.heap.size, 0, none⟩ (.slice none 0 0)).setCell ⟨w.heap.size + 1, 0, none⟩ (.int .i64 100)).drew = w10 := ⟨_, rfl⟩
        rw [hw10] at hb9 hb10 hS ⊢
        have hK' : w10.heap[D]? = some (.deferred (some [])) := by
          rw [hS.block D (Array.getElem?_eq_some_iff.1 hK).1 (by omega)]
          exact hK
        have hL := loose_put (B := w.heap.size) (.deferred none) (by omega) hK' rfl
        refine ret_mark hK' rfl (res_cell2 rfl rfl rfl (load_one Try.underlying25 rfl ((hL.blk hb9).cell 0)) (load_one Try.underlying26 rfl ((hL.blk hb10).cell 0))) ?_
        rw [show splitM l = ([], 100) by rw [splitM, if_neg h0, if_neg (by omega), if_neg hall]]
        exact ⟨none, 0, 0, rfl, Sl.nil _ _, hL.step (h8.trans hS (fun i hi e => by rcases e with e | e <;> omega)) (Nat.le_refl _), fun k hk => (at_nil hk).elim⟩
    case stop =>
      rintro D c pre W hD hp ⟨rfl, h1, h2, h3, h4⟩ hK
      go_wp2
      have hL := loose_put (B := w.heap.size) (.deferred none) (by omega) hK rfl
      refine ret_mark hK rfl (res_cell2 rfl rfl rfl (load_one Try.underlying25 rfl ((hL.blk h2).cell 0)) (load_one Try.underlying26 rfl ((hL.blk h3).cell 0))) ?_
      rw [show splitM l = ([], 101) by rw [splitM, if_neg h0, if_pos (by have := hp.length_le; omega)]]
      exact ⟨none, 0, 0, rfl, Sl.nil _ _, hL.step h4 (Nat.le_refl _), fun k hk => (at_nil hk).elim⟩
end Go.Proofs.Ytplcoielgencfaa
