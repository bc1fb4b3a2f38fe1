/- The law RouteSplits: the names of any path, or what is wrong with it. -/
import Derived.Test.YtplcoielgencfaaCSameNames
import Derived.Test.YtplcoielgencfaaCAwake10
import Derived.Test.YtplcoielgencfaaCSteps
import Derived.Test.YtplcoielgencfaaCRefSplit
import Derived.Test.YtplcoielgencfaaCB2
namespace Go.Proofs.Ytplcoielgencfaa
open Go.RowKit
attribute [local go_sem] Oper.semAt_some

theorem bool_size : (Try.prog.info? 4).map (·.size) = some 1 := by kernel_rfl

theorem splitM_few (l : List UInt8) : (splitM l).1.length ≤ 16 := by
  unfold splitM
  split
  · simp
  · split
    · simp
    · split
      · simp only; omega
      · simp

theorem steps_prefix {names : List (List UInt8)} {k : Nat} {pre : List (Nat × List UInt8)} {x : Nat × List UInt8} (hp : pre = (stepsM names).take k) (hk : k ≤ names.length) (h : pre ++ [x] <+: stepsM names) : ∃ hlt : k < names.length, x = (k, names[k]) := by
  have hl := stepsM_length names
  have hpl : pre.length = k := by rw [hp, List.length_take]; omega
  have hlt : k < names.length := by
    have := h.length_le
    simp at this
    omega
  refine ⟨hlt, ?_⟩
  have e := List.prefix_iff_eq_take.1 h
  rw [List.length_append, hpl, List.length_singleton, stepsM_take names hlt, ← hp] at e
  simpa using e

/-- What the loop over the steps keeps. -/
def SplitsRel (w : World) (b b7 : Nat) (most : Int) (B : Option Addr) (m d : Nat) (names : List (List UInt8)) (pre : List (Nat × List UInt8)) (W : World) : Prop :=
  ∃ k : Nat, pre = (stepsM names).take k ∧ k ≤ names.length ∧ Blk W b 3 #[.int .i64 most] ∧ (∃ v, Blk W (b + 1) 4 #[v]) ∧ Blk W b7 25 #[.slice B m d] ∧ Blk W (b7 + 1) 3 #[.int .i64 k] ∧ Sl W B m d 1 (strs names) ∧ Step (fun _ => False) w W ∧ b7 + 3 ≤ W.heap.size
/-- How the loop is left. -/
def SplitsOut (w : World) (b : Nat) (names : List (List UInt8)) (c : Code) (pre : List (Nat × List UInt8)) (W : World) : Prop :=
  c = .ret ∧ (∃ v : Bool, Blk W (b + 1) 4 #[.bool v] ∧ (v = false → ¬ pre <+: stepsM names)) ∧ Step (fun _ => False) w W

set_option maxRecDepth 100000 in
set_option maxHeartbeats 1600000 in
theorem walk_RouteSplits {w : World} {s : List UInt8} {most : Int} (_ : s.length ≤ maxLen) (_ : (Lit.int .i64 most).wf = true) : Calls Try.prog 4 #[.string (str s), .int .i64 most] w fun e w' => e = .returned (.bool true) ∧ Below w.heap.size w w' := by
  have hsz := str_size s
  refine callsIn_wide.1 (callsIn_of_wp_marks (F := Fence.wide) (n := 3) Try.func4 rfl trivial ?_ rfl)
  simp only [Try.ntmps4, List.size_toArray, List.length_cons, List.length_nil, Nat.reduceAdd, Nat.reduceSub, Array.replicate_succ, Array.replicate_zero, List.push_toArray, List.append_toArray, List.nil_append, List.cons_append]
  refine wpIn_wide.2 ?_
  obtain ⟨w0, hw0⟩ : ∃ w0, (w.alloc (.cells #[.int .i64 most] 3)).alloc (.cells #[.bool false] 4) = w0 := ⟨_, rfl⟩
  have hm0 : Blk w0 w.heap.size 3 #[.int .i64 most] := by subst hw0; exact (Blk.new w _ _).alloc _
  have hr0 : Blk w0 (w.heap.size + 1) 4 #[.bool false] := by
    subst hw0
    have := Blk.new (w.alloc (.cells #[.int .i64 most] 3)) 4 #[.bool false]
    rwa [World.size_alloc] at this
  have hS0 : Step (fun _ => False) w w0 := by subst hw0; exact ((Step.refl _ _).alloc _).alloc _
  have hz0 : w0.heap.size = w.heap.size + 2 := by subst hw0; simp
  have Hw0 := Lib.hid hw0
  have Hz0 := Lib.hid hz0
  clear hw0 hz0
  by_cases hs : 500 < s.length ∨ most < 0
  · go_wp2_with (first
      | (go_at_call 7; refine (route_awake _).mono ?_; rintro e w1 ⟨rfl, hS1⟩; rw [Hw0.out] at hS1; have c3 := (hm0.step hS1 id).cell 0)
      | (refine wl_put _ rfl 4 _ _ rfl (w.heap.size + 1) 0 rfl (.bool true) rfl rfl rfl bool_size 4 #[.bool false] (hr0.step hS1 id) (by simp) ?_; intro w2 hb2 hS2))
    all_goals
      have hS : Step (fun _ => False) w w2 := (hS0.tr hS1).trans hS2 (fun i hi e => by omega)
      exact ret_plain (res_cell1 rfl rfl (load_one Try.underlying4 rfl (hb2.cell 0))) rfl ⟨rfl, hS.below⟩
  · have hs1 : ¬ 500 < s.length := fun h => hs (.inl h)
    have hs2 : 0 ≤ most := by have : ¬ most < 0 := fun h => hs (.inr h); omega
    clear hs
    obtain ⟨names, hnm⟩ : ∃ names, (splitM s).1 = names := ⟨_, rfl⟩
    obtain ⟨E, hE⟩ : ∃ E, (splitM s).2 = E := ⟨_, rfl⟩
    have hfew : names.length ≤ 16 := by rw [← hnm]; exact splitM_few s
    have Hnm := Lib.hid hnm
    have HE := Lib.hid hE
    clear hnm hE
    go_wp2_with (first
      | (go_at_call 7; refine (route_awake _).mono ?_; rintro e w1 ⟨rfl, hS1⟩; rw [Hw0.out] at hS1; have c3 := (hm0.step hS1 id).cell 0)
      | (go_at_call 12; refine (split_code (by omega)).mono ?_; rintro e w2 ⟨A, n, c, rfl, hsA, hS2, hA⟩; rw [HE.out]; rw [Hnm.out] at hsA; have hn16 : n ≤ 16 := by rw [hsA.n_strs]; exact hfew)
      | (go_at_call 13; refine (split_ref (by omega)).mono ?_; rintro e w3 ⟨B, m, d, rfl, hsB, hS3, hB⟩; rw [HE.out]; rw [Hnm.out] at hsB)
      | (go_at_call 14; refine (same_names ((hsA.keep hS3).keep ((Step.refl _ _).alloc _)) (hsB.alloc _) (by omega)).mono ?_; rintro e w5 ⟨rfl, q, hq⟩; rw [decide_eq_true rfl])
      | (go_at_call 15; refine steps_make.mono ?_; rintro e w8 ⟨rfl, hc8, hS8, hz8⟩))
    obtain ⟨w4, hw4⟩ : ∃ w4, ((w3.alloc (.cells #[.slice B m d] 25)).drewN q).alloc (.cells #[.int .i64 0] 3) = w4 := ⟨_, rfl⟩
    rw [hw4] at hc8 hS8 hz8
    have hS34 : Step (fun _ => False) w3 w4 := by subst hw4; exact (((Step.refl _ _).alloc _).drewN q).alloc _
    have hb7 : Blk w4 w3.heap.size 25 #[.slice B m d] := by subst hw4; exact ((Blk.new w3 _ _).drewN q).alloc _
    have hb9 : Blk w4 (w3.heap.size + 1) 3 #[.int .i64 0] := by
      subst hw4
      have := Blk.new ((w3.alloc (.cells #[.slice B m d] 25)).drewN q) 3 #[.int .i64 0]
      rwa [show ((w3.alloc (.cells #[.slice B m d] 25)).drewN q).heap.size = w3.heap.size + 1 by simp] at this
    have hz4 : w4.heap.size = w3.heap.size + 2 := by subst hw4; simp
    clear hw4
    rw [hz4] at hc8 hz8
    refine wp_range_at rfl (enters_of Try.func23 (by kernel_rfl) rfl) (steps_tells (Bn := w3.heap.size + 2) hc8 (by omega)) (fun _ => rfl) (fun x => [(42, .int .i64 x.1), (43, .string (str x.2)), (10, .int .i64 x.1), (11, .string (str x.2))])
      (SplitsRel w w.heap.size w3.heap.size most B m d names) (SplitsOut w w.heap.size names) ?hI ?hIx ?h0 ?assign ?body ?done ?stop
    case hI =>
      rintro pre W1 W2 ⟨k, h1, h2, h3, ⟨v, h4⟩, h5, h6, h7, h8, h9⟩ hL
      exact ⟨k, h1, h2, hL.blk h3, ⟨v, hL.blk h4⟩, hL.blk h5, hL.blk h6, hL.sl h7, hL.step h8 (by have := hS0.size; have := hS1.size; have := hS2.size; have := hS3.size; omega), Nat.le_trans h9 hL.size⟩
    case hIx =>
      rintro c pre W1 W2 ⟨h1, ⟨v, h2, h3⟩, h4⟩ hL
      exact ⟨h1, ⟨v, hL.blk h2, h3⟩, hL.step h4 (by have := hS0.size; have := hS1.size; have := hS2.size; have := hS3.size; omega)⟩
    case h0 =>
      have hs24 := (hS2.tr hS3).tr hS34
      exact ⟨0, rfl, Nat.zero_le _, (((hm0.step hS1 id).step hs24 id).step hS8 id), ⟨_, (((hr0.step hS1 id).step hs24 id).step hS8 id)⟩, hb7.step hS8 id, hb9.step hS8 id, (hsB.keep hS34).keep hS8, ((hS0.tr hS1).tr hs24).tr hS8, by omega⟩
    case assign =>
      intro l x W K hK
      gi_wp2
      exact hK
    case body =>
      rintro l pre x W ⟨k, hpre, hk, hb1, ⟨v, hb2⟩, hb3, hb4, hsl, hSt, hWz⟩ hlen
      simp only [List.foldl_cons, List.foldl_nil, List.setIfInBounds_toArray, List.set_cons_succ, List.set_cons_zero]
      have hbz : w.heap.size + 2 ≤ w3.heap.size := by have := Hz0.out; have := hS1.size; have := hS2.size; have := hS3.size; omega
      have hft : ∀ j, Ft B m j → w.heap.size + 2 ≤ j ∧ j < w3.heap.size := fun j hj => ⟨by have := hB j hj.at_; have := Hz0.out; have := hS1.size; have := hS2.size; omega, hsB.ft_lt (by omega) hj⟩
      have hm : m = names.length := hsB.n_strs
      have Hm := Lib.hid hm
      have Hpre := Lib.hid hpre
      clear hm hpre
      have c1 : W.cell? ⟨w.heap.size, 0, none⟩ = some (.int .i64 most) := hb1.cell 0
      have c3 : W.cell? ⟨w3.heap.size, 0, none⟩ = some (.slice B m d) := hb3.cell 0
      have c4 : W.cell? ⟨w3.heap.size + 1, 0, none⟩ = some (.int .i64 k) := hb4.cell 0
      have hKt : ∀ {W' : World}, Step (fun i => i = w.heap.size + 1 ∨ i = w3.heap.size + 1) W W' → KeepsFrom w8.heap.size W W' ∧ Keeps (fun k => w8.heap.size ≤ k) W W' ∧ Step (fun _ => False) w W' := fun h =>
        ⟨h.keepsFrom (fun i o hi ho => by rcases hi with rfl | rfl; exact hb2.isCells ho; exact hb4.isCells ho), h.keeps (fun i hi e => by rcases e with e | e <;> omega), hSt.trans h (fun i hi e => by rcases e with e | e <;> omega)⟩
      by_cases hend : (k : Int) = most
      · have hx : ((k : Int) == most) = true := by simpa using hend
        have Hend := Lib.hid hend
        clear hend
        gi_wp2_with (refine wi_put _ rfl 4 _ _ rfl (w.heap.size + 1) 0 rfl (.bool true) rfl rfl rfl bool_size 4 #[v] hb2 (by simp) ?_; intro W2 hr2 hS2')
        obtain ⟨k1, _, k3⟩ := hKt (hS2'.mono (fun i _ e => .inl e))
        exact ⟨k1, rfl, ⟨true, hr2, fun h => by cases h⟩, k3⟩
      · have hx : ((k : Int) == most) = false := by simpa using hend
        by_cases hgood : ∃ hlt : k < names.length, x = (k, names[k])
        · obtain ⟨hlt, rfl⟩ := hgood
          have hkm : k < m := by have := Hm.out; omega
          obtain ⟨b, off, rfl, u, hu, hcell⟩ := hsl.at_ (k := k) hkm
          rw [strs_get _ hlt, Option.some.injEq] at hu
          subst hu
          rw [strv] at hcell
          have hst := str_toList names[k]
          have f9 := hb4.frozen 0
          have hkm' : ¬ m ≤ k := by omega
          gi_wp2
          · obtain ⟨k1, k2, k3⟩ := hKt ((Step.refl _ W).setCell (p := ⟨w3.heap.size + 1, 0, none⟩) (.inl (.inr rfl)) (.int .i64 ((k : Int) + 1)))
            refine ⟨k1, k2, k + 1, by rw [Hpre.out, stepsM_take names hlt], hlt, hb1.far (by show w.heap.size ≠ w3.heap.size + 1; omega) _, ⟨v, hb2.far (by show w.heap.size + 1 ≠ w3.heap.size + 1; omega) _⟩, hb3.far (by show w3.heap.size ≠ w3.heap.size + 1; omega) _, ?_, ?_, k3, Nat.le_trans hWz k1.size⟩
            · have := hb4.set_ 0 (.int .i64 ((k : Int) + 1))
              simpa using this
            · exact hsl.step ((Step.refl (fun i => i = w3.heap.size + 1) W).setCell (p := ⟨w3.heap.size + 1, 0, none⟩) (.inl rfl) _) (fun j hj e => by have := hft j hj; omega)
        · have hno : ¬ pre ++ [x] <+: stepsM names := fun h => hgood (steps_prefix Hpre.out hk h)
          by_cases hx1 : x.1 = k
          · have hx2 : ((x.1 : Int) == (k : Int)) = true := by simp [hx1]
            have Hx1 := Lib.hid hx1
            by_cases hkm : k < m
            · have hlt : k < names.length := by have := Hm.out; omega
              have hne : ¬ x.2 = names[k] := fun e => hgood ⟨hlt, Prod.ext hx1 e⟩
              obtain ⟨b, off, rfl, u, hu, hcell⟩ := hsl.at_ (k := k) hkm
              rw [strs_get _ hlt, Option.some.injEq] at hu
              subst hu
              rw [strv] at hcell
              have hst := str_toList names[k]
              have hst2 := str_toList x.2
              have hx3 : (x.2 == names[k]) = false := by simpa using hne
              clear hx1
              gi_wp2_with (refine wi_put _ rfl 4 _ _ rfl (w.heap.size + 1) 0 rfl (.bool false) rfl rfl rfl bool_size 4 #[v] hb2 (by simp) ?_; intro W2 hr2 hS2')
              all_goals
                obtain ⟨k1, _, k3⟩ := hKt (hS2'.mono (fun i _ e => .inl e))
                exact ⟨k1, rfl, ⟨false, hr2, fun _ => hno⟩, k3⟩
            · clear hx1
              gi_wp2_with (refine wi_put _ rfl 4 _ _ rfl (w.heap.size + 1) 0 rfl (.bool false) rfl rfl rfl bool_size 4 #[v] hb2 (by simp) ?_; intro W2 hr2 hS2')
              all_goals
                obtain ⟨k1, _, k3⟩ := hKt (hS2'.mono (fun i _ e => .inl e))
                exact ⟨k1, rfl, ⟨false, hr2, fun _ => hno⟩, k3⟩
          · have hx2 : ((x.1 : Int) == (k : Int)) = false := by simp; omega
            gi_wp2_with (refine wi_put _ rfl 4 _ _ rfl (w.heap.size + 1) 0 rfl (.bool false) rfl rfl rfl bool_size 4 #[v] hb2 (by simp) ?_; intro W2 hr2 hS2')
            all_goals
              obtain ⟨k1, _, k3⟩ := hKt (hS2'.mono (fun i _ e => .inl e))
              exact ⟨k1, rfl, ⟨false, hr2, fun _ => hno⟩, k3⟩
    case done =>
      rintro D W hD ⟨k, hpre, hk, hb1, ⟨v, hb2⟩, hb3, hb4, hsl, hSt, hWz⟩ hK
      rw [Hnm.out] at hpre
      have hkn : k = names.length := by
        have := congrArg List.length hpre
        rw [List.length_take, stepsM_length] at this
        omega
      have hm : m = names.length := hsB.n_strs
      obtain rfl : k = m := by omega
      clear hm hkn
      have c3 : W.cell? ⟨w3.heap.size, 0, none⟩ = some (.slice B k d) := hb3.cell 0
      have c4 : W.cell? ⟨w3.heap.size + 1, 0, none⟩ = some (.int .i64 k) := hb4.cell 0
      go_wp2_with (refine wl_put _ rfl 4 _ _ rfl (w.heap.size + 1) 0 rfl (.bool true) rfl rfl rfl bool_size 4 #[v] hb2 (by simp) ?_; intro W2 hr2 hS2')
      have hK' : W2.heap[D]? = some (.deferred (some [])) := by
        rw [hS2'.block D (Array.getElem?_eq_some_iff.1 hK).1 (by have := Hz0.out; have := hS1.size; have := hS2.size; have := hS3.size; omega)]
        exact hK
      have hL := loose_put (B := w.heap.size) (.deferred none) (by have := Hz0.out; have := hS1.size; have := hS2.size; have := hS3.size; omega) hK' rfl
      refine ret_mark hK' rfl (res_cell1 rfl rfl (load_one Try.underlying4 rfl ((hL.blk hr2).cell 0))) ⟨rfl, (hL.step (hSt.trans hS2' (fun i hi e => by omega)) (Nat.le_refl _)).below⟩
    case stop =>
      rintro D c pre W hD hp ⟨rfl, ⟨v, hb, hv⟩, hSt⟩ hK
      rw [Hnm.out] at hp
      obtain rfl : v = true := by
        cases v with
        | true => rfl
        | false => exact absurd hp (hv rfl)
      go_wp2
      have hL := loose_put (B := w.heap.size) (.deferred none) (by have := Hz0.out; have := hS1.size; have := hS2.size; have := hS3.size; omega) hK rfl
      refine ret_mark hK rfl (res_cell1 rfl rfl (load_one Try.underlying4 rfl ((hL.blk hb).cell 0))) ⟨rfl, (hL.step hSt (Nat.le_refl _)).below⟩
end Go.Proofs.Ytplcoielgencfaa
