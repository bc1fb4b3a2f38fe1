/- The reference's envelopes as bytes. -/
import Derived.Test.YtjnaiicgincndaaCPut
namespace Go.Proofs.Ytjnaiicgincndaa
open Go.RowKit

set_option maxRecDepth 100000 in
set_option maxHeartbeats 1000000 in
theorem ad_ref {w : World} {e : Env} {A B : Option Addr} {n c m d : Nat} (he : EnvIs w e A n c B m d) (hk0 : 0 ≤ e.kind) (hn : n ≤ 1000) :
    Calls Try.prog 97 #[.agg #[.int .i64 e.kind, .int .u32 e.realm, .int .u32 e.epoch, .slice A n c, .slice B m d]] w fun r w' => ∃ A' n' c', r = .returned (.slice A' n' c') ∧ Own w' 5 1 A' n' c' (u8s (adB e)) ∧ Step (fun _ => False) w w' ∧ (∀ k, At A' k → w.heap.size ≤ k) := by
  have hkw : e.kind < 2 ^ 63 := by have := he.kind; simp [Lit.wf] at this; have := this.2; omega
  have hkk : ((e.kind.toNat : Nat) : Int) = e.kind := Int.toNat_of_nonneg hk0
  have hr := he.realm
  have hp := he.epoch
  have hl := he.links
  obtain ⟨kn, hkn⟩ : ∃ kn, e.kind.toNat = kn := ⟨_, rfl⟩
  have e1 : adB e = nM kn ++ nM e.realm ++ nM e.epoch ++ nM e.links.length ++ idsB e.links := by rw [adB, hkn]
  rw [hkn] at hkk
  rw [← hkk, e1]
  have hknb : kn < 2 ^ 64 := by omega
  clear e1 hkn hkk hk0 hkw
  go_enter Try.func97, Try.ntmps97
  go_wp2_with (refine wl_box rfl 48 (.tmp 0) rfl (.agg #[.int .i64 kn, .int .u32 e.realm, .int .u32 e.epoch, .slice A n c, .slice B m d]) rfl ?_; intro w1 hb1 hS1 hz1; replace hb1 : Blk w1 w.heap.size 48 #[.int .i64 kn, .int .u32 e.realm, .int .u32 e.epoch, .slice A n c, .slice B m d] := hb1; clear hz1)
  have d0 : w1.cell? ⟨w.heap.size, 0, none⟩ = some (.int .i64 kn) := hb1.cell 0
  have d1 : w1.cell? ⟨w.heap.size, 1, none⟩ = some (.int .u32 e.realm) := hb1.cell 1
  have d2 : w1.cell? ⟨w.heap.size, 2, none⟩ = some (.int .u32 e.epoch) := hb1.cell 2
  have d3 : w1.cell? ⟨w.heap.size, 3, none⟩ = some (.slice A n c) := hb1.cell 3
  have hnil : Sl w1.drew none 0 0 1 (u8s []) := Sl.nil _ _
  have hw1 : IntKind.u64.wrap (kn : Int) = kn := by rw [IntKind.wrap_u64]; omega
  have hw2 : IntKind.u64.wrap (e.realm : Int) = e.realm := by rw [IntKind.wrap_u64]; omega
  have hw3 : IntKind.u64.wrap (e.epoch : Int) = e.epoch := by rw [IntKind.wrap_u64]; omega
  have hD : Step (fun _ => False) w1 w1.drew := (Step.refl _ _).drew
  go_region_held3 (fun w' => w'.cell? ⟨w.heap.size, 0, none⟩ = some (.int .i64 kn) ∧ w'.cell? ⟨w.heap.size, 1, none⟩ = some (.int .u32 e.realm) ∧ w'.cell? ⟨w.heap.size, 2, none⟩ = some (.int .u32 e.epoch) ∧ w'.cell? ⟨w.heap.size, 3, none⟩ = some (.slice A n c)) (first | exact ⟨p0, p1, p2, p3⟩ | exact ⟨k0, k1, k2, k3⟩ | exact ⟨g0, g1, g2, g3⟩ | exact ⟨f0, f1, f2, f3⟩ | exact ⟨d0, d1, d2, d3⟩) ((first
    | (go_at_call 71; refine (n_ref (n := kn) (l := []) hnil (by omega) hknb).mono ?_; rintro r w2 ⟨A2, m2, c2, rfl, hown2, hS2, hA2⟩; have hb2 := hb1.drew.step hS2 id; have f0 : w2.cell? ⟨w.heap.size, 0, none⟩ = some (.int .i64 kn) := hb2.cell 0; have f1 : w2.cell? ⟨w.heap.size, 1, none⟩ = some (.int .u32 e.realm) := hb2.cell 1; have f2 : w2.cell? ⟨w.heap.size, 2, none⟩ = some (.int .u32 e.epoch) := hb2.cell 2; have f3 : w2.cell? ⟨w.heap.size, 3, none⟩ = some (.slice A n c) := hb2.cell 3; have hm2 := hown2.sl.n_eq; have hl2 := nM_ten hknb; simp at hm2; have hq2 : m2 ≤ 10 := (by omega); clear hm2 hl2 hnil)
    | (go_at_call 71; refine (n_ref (n := e.realm) hown2.sl (by omega) (by omega)).mono ?_; rintro r w3 ⟨A3, m3, c3, rfl, hown3, hS3, hA3⟩; have hb3 := hb2.step hS3 id; have g0 : w3.cell? ⟨w.heap.size, 0, none⟩ = some (.int .i64 kn) := hb3.cell 0; have g1 : w3.cell? ⟨w.heap.size, 1, none⟩ = some (.int .u32 e.realm) := hb3.cell 1; have g2 : w3.cell? ⟨w.heap.size, 2, none⟩ = some (.int .u32 e.epoch) := hb3.cell 2; have g3 : w3.cell? ⟨w.heap.size, 3, none⟩ = some (.slice A n c) := hb3.cell 3; have hm3 := hown3.sl.n_eq; have hl3 := nM_ten (n := e.realm) (by omega); have hl2 := nM_ten hknb; simp at hm3; have hq3 : m3 ≤ 20 := (by omega); clear hm3 hl3 hl2 hown2)
    | (go_at_call 71; refine (n_ref (n := e.epoch) hown3.sl (by omega) (by omega)).mono ?_; rintro r w4 ⟨A4, m4, c4, rfl, hown4, hS4, hA4⟩; have hb4 := hb3.step hS4 id; have k0 : w4.cell? ⟨w.heap.size, 0, none⟩ = some (.int .i64 kn) := hb4.cell 0; have k1 : w4.cell? ⟨w.heap.size, 1, none⟩ = some (.int .u32 e.realm) := hb4.cell 1; have k2 : w4.cell? ⟨w.heap.size, 2, none⟩ = some (.int .u32 e.epoch) := hb4.cell 2; have k3 : w4.cell? ⟨w.heap.size, 3, none⟩ = some (.slice A n c) := hb4.cell 3; have hm4 := hown4.sl.n_eq; have hl4 := nM_ten (n := e.epoch) (by omega); have hl3 := nM_ten (n := e.realm) (by omega); have hl2 := nM_ten hknb; simp at hm4; have hq4 : m4 ≤ 30 := (by omega); clear hm4 hl4 hl3 hl2 hown3)
    | (go_at_call 69; refine (ids_ref hown4.sl (((((hl.keep hS1).keep hD).keep hS2).keep hS3).keep hS4) (by omega) (by omega)).mono ?_; rintro r w5 ⟨A5, m5, c5, rfl, hown5, hS5, hA5⟩; have hb5 := hb4.step hS5 id; have p0 : w5.cell? ⟨w.heap.size, 0, none⟩ = some (.int .i64 kn) := hb5.cell 0; have p1 : w5.cell? ⟨w.heap.size, 1, none⟩ = some (.int .u32 e.realm) := hb5.cell 1; have p2 : w5.cell? ⟨w.heap.size, 2, none⟩ = some (.int .u32 e.epoch) := hb5.cell 2; have p3 : w5.cell? ⟨w.heap.size, 3, none⟩ = some (.slice A n c) := hb5.cell 3)))
  go_wp2
  go_ret
  have h1 := hS1.size
  have h2 := hS2.size
  have h3 := hS3.size
  have h4 := hS4.size
  simp at h2
  refine ⟨A5, m5, c5, rfl, ?_, (((((hS1.tr hD).tr hS2).tr hS3).tr hS4).tr hS5), fun k hk => by have := hA5 k hk; omega⟩
  rw [List.nil_append] at hown5
  exact hown5

theorem rising_take {l : List Id} {j : Nat} (h1 : 1 ≤ j) (hj : j < l.length) : ((pairsM l).take j).all (fun p => lessM p.1.1 p.2.1) = (((pairsM l).take (j - 1)).all (fun p => lessM p.1.1 p.2.1) && lessM (l[j - 1]).1 (l[j]).1) := by
  rw [pairsM_take l h1 hj, List.all_append]
  simp

set_option maxRecDepth 100000 in
set_option maxHeartbeats 1000000 in
theorem put_ref {w : World} {e : Env} {A B : Option Addr} {n c m d : Nat} (he : EnvIs w e A n c B m d) (hn : n ≤ 1000000) (hm : m ≤ 1000000) :
    Calls Try.prog 74 #[.agg #[.int .i64 e.kind, .int .u32 e.realm, .int .u32 e.epoch, .slice A n c, .slice B m d]] w fun r w' => ∃ A' n' c', r = .returned (.tuple #[.slice A' n' c', .int .i64 (if mayM e then 0 else 90)]) ∧ Sl w' A' n' c' 1 (u8s (if mayM e then putB e else [])) ∧ Step (fun _ => False) w w' ∧ (∀ k, At A' k → w.heap.size ≤ k) := by
  have Hn := Lib.hid he.n_eq
  have Hm := Lib.hid he.m_eq
  have hl := he.links
  by_cases hbad : e.kind < 1 ∨ 3 < e.kind ∨ 1000 < n ∨ 70000 < m
  · have hmay : ¬ mayM e = true := by
      have h1 := Hn.out
      have h2 := Hm.out
      simp only [mayM, Bool.and_eq_true, decide_eq_true_eq]
      rintro ⟨⟨⟨⟨h3, h4⟩, h5⟩, h6⟩, _⟩
      omega
    rw [if_neg hmay, if_neg hmay]
    go_enter Try.func74, Try.ntmps74
    go_wp2_with (refine wl_box rfl 48 (.tmp 0) rfl (.agg #[.int .i64 e.kind, .int .u32 e.realm, .int .u32 e.epoch, .slice A n c, .slice B m d]) rfl ?_; intro w1 hb1 hS1 hz1; replace hb1 : Blk w1 w.heap.size 48 #[.int .i64 e.kind, .int .u32 e.realm, .int .u32 e.epoch, .slice A n c, .slice B m d] := hb1; clear hz1; have d0 : w1.cell? ⟨w.heap.size, 0, none⟩ = some (.int .i64 e.kind) := hb1.cell 0; have d3 : w1.cell? ⟨w.heap.size, 3, none⟩ = some (.slice A n c) := hb1.cell 3; have d4 : w1.cell? ⟨w.heap.size, 4, none⟩ = some (.slice B m d) := hb1.cell 4)
    go_ways
    all_goals
      go_ret2
      exact ⟨none, 0, 0, rfl, Sl.nil _ _, hS1, fun k hk => (at_nil hk).elim⟩
  · have hk1 : ¬ e.kind < 1 := fun h => hbad (.inl h)
    have hk2 : ¬ 3 < e.kind := fun h => hbad (.inr (.inl h))
    have hk3 : ¬ 1000 < n := fun h => hbad (.inr (.inr (.inl h)))
    have hk4 : ¬ 70000 < m := fun h => hbad (.inr (.inr (.inr h)))
    have hmay : mayM e = risingM e.links := by
      have h1 := Hn.out
      have h2 := Hm.out
      have e1 : 1 ≤ e.kind := by omega
      have e2 : e.kind ≤ 3 := by omega
      have e3 : e.links.length ≤ 1000 := by omega
      have e4 : e.body.length ≤ 70000 := by omega
      simp [mayM, e1, e2, e3, e4]
    rw [hmay]
    clear hmay hbad
    obtain ⟨E, hE⟩ : ∃ E : Int, (if risingM e.links = true then 0 else 90) = E := ⟨_, rfl⟩
    obtain ⟨out, ho⟩ : ∃ out : List UInt8, (if risingM e.links = true then putB e else []) = out := ⟨_, rfl⟩
    rw [hE, ho]
    have HE := Lib.hid hE
    have Ho := Lib.hid ho
    clear hE ho
    go_enter Try.func74, Try.ntmps74
    go_wp2_with (refine wl_box rfl 48 (.tmp 0) rfl (.agg #[.int .i64 e.kind, .int .u32 e.realm, .int .u32 e.epoch, .slice A n c, .slice B m d]) rfl ?_; intro w1 hb1 hS1 hz1; replace hb1 : Blk w1 w.heap.size 48 #[.int .i64 e.kind, .int .u32 e.realm, .int .u32 e.epoch, .slice A n c, .slice B m d] := hb1; clear hz1; have d0 : w1.cell? ⟨w.heap.size, 0, none⟩ = some (.int .i64 e.kind) := hb1.cell 0; have d3 : w1.cell? ⟨w.heap.size, 3, none⟩ = some (.slice A n c) := hb1.cell 3; have d4 : w1.cell? ⟨w.heap.size, 4, none⟩ = some (.slice B m d) := hb1.cell 4)
    clear d0 d3 d4
    go_loopw [4] (fun i wr => ∃ j : Nat, i = .int .i64 j ∧ 1 ≤ j ∧ (j ≤ n ∨ j = 1) ∧ ((pairsM e.links).take (j - 1)).all (fun p => lessM p.1.1 p.2.1) = true ∧ Step (fun _ => False) w1 wr) (fun i _ => n - (intOf i).toNat)
    case atStart => exact ⟨1, rfl, Nat.le_refl _, .inr rfl, rfl, Step.refl _ _⟩
    case round =>
      obtain ⟨j, rfl, h1, hj, hall, hSr⟩ := hrel
      have hbr := hb1.step hSr id
      have d3 : wr.cell? ⟨w.heap.size, 3, none⟩ = some (.slice A n c) := hbr.cell 3
      by_cases hlt : j < n
      · have hjl : j < e.links.length := by have := Hn.out; omega
        obtain ⟨b, off, rfl, hx1⟩ := ((hl.keep hS1).keep hSr).elem idc_length (k := j - 1) (by omega) (by omega)
        obtain ⟨b', off', e', hx2⟩ := ((hl.keep hS1).keep hSr).elem idc_length (k := j) hjl (by omega)
        injection e' with e'
        injection e' with e1 e2
        subst e1 e2
        have hd1 : Cells wr.drew b (off + (j - 1) * 32) (idc e.links[j - 1]) := hx1
        have hd2 : Cells wr.drew b (off + j * 32) (idc e.links[j]) := hx2
        have hcd : wr.drew.cell? ⟨w.heap.size, 3, none⟩ = some (.slice (some ⟨b, off, none⟩) n c) := d3
        have hsub : (j : Int) - 1 = ((j - 1 : Nat) : Int) := by omega
        have hwr : IntKind.i64.wrap ((j - 1 : Nat) : Int) = ((j - 1 : Nat) : Int) := wrap_small _ (by omega) (by omega)
        have hlt3 : ((j - 1 : Nat) : Int) < (n : Int) := by omega
        have hlt4 : (j : Int) < (n : Int) := by omega
        have hin : (0 ≤ ((j - 1 : Nat) : Int) ∧ ((j - 1 : Nat) : Int) < (n : Int)) = True := eq_true ⟨by omega, by omega⟩
        have hin2 : (0 ≤ (j : Int) ∧ (j : Int) < (n : Int)) = True := eq_true ⟨by omega, by omega⟩
        go_upto_region 6 with (fail)
        refine wp_region_still_tail 11 (by kernel_rfl) (by kernel_rfl) ?_
        simp only [List.take_succ_cons, List.take_zero, List.drop_succ_cons, List.drop_zero]
        change wpStill _ _ wr.drew _ _ _
        repeat (first
          | (refine ws_load rfl 26 _ rfl b (off + (j - 1) * 32) rfl (idc e.links[j - 1]) _ Try.underlying26 rfl (by rw [id_size, idc_length]) hd1 ?_)
          | (refine ws_load rfl 26 _ rfl b (off + j * 32) rfl (idc e.links[j]) _ Try.underlying26 rfl (by rw [id_size, idc_length]) hd2 ?_)
          | still_step)
        refine wpStill_nil ?_
        simp only [Act.put, List.setIfInBounds_toArray, List.set_cons_succ, List.set_cons_zero]
        change wpList _ _ _ _ _ wr.drew
        have hD : Step (fun _ => False) wr wr.drew := (Step.refl _ _).drew
        by_cases hless : lessM (e.links[j - 1]).1 (e.links[j]).1 = true
        · go_wp2_with (go_at_call 79; refine less_ref.mono ?_; rintro r w3 ⟨rfl, hS3⟩; rw [hless])
          go_roundw
          case rel => exact ⟨j + 1, by go_num, by omega, .inl (by omega), by rw [Nat.add_sub_cancel, rising_take h1 hjl, hall, hless]; rfl, (hSr.tr hD).tr hS3⟩
          case measure => simp [intOf]; omega
        · have hless' : lessM (e.links[j - 1]).1 (e.links[j]).1 = false := by simpa using hless
          have hno : ¬ risingM e.links = true := by
            intro h
            have h2 : (((pairsM e.links).take j).all fun p => lessM p.1.1 p.2.1) = true := List.all_eq_true.2 (fun x hx => List.all_eq_true.1 h x (List.mem_of_mem_take hx))
            rw [rising_take h1 hjl, hless', Bool.and_false] at h2
            cases h2
          go_wp2_with (go_at_call 79; refine less_ref.mono ?_; rintro r w3 ⟨rfl, hS3⟩; rw [hless'])
          go_ret2
          obtain rfl : 90 = E := by rw [← HE.out, if_neg hno]
          obtain rfl : [] = out := by rw [← Ho.out, if_neg hno]
          exact ⟨none, 0, 0, rfl, Sl.nil _ _, ((hS1.tr hSr).tr hD).tr hS3, fun k hk => (at_nil hk).elim⟩
      · rw [List.take_of_length_le (by rw [pairsM_length]; have := Hn.out; omega)] at hall
        have hris : risingM e.links = true := hall
        have Hris := Lib.hid hris
        clear hris hall
        go_wp2
        have hD : Step (fun _ => False) wr wr.drew := (Step.refl _ _).drew
        have d0 : wr.drew.cell? ⟨w.heap.size, 0, none⟩ = some (.int .i64 e.kind) := hbr.cell 0
        have d1 : wr.drew.cell? ⟨w.heap.size, 1, none⟩ = some (.int .u32 e.realm) := hbr.cell 1
        have d2 : wr.drew.cell? ⟨w.heap.size, 2, none⟩ = some (.int .u32 e.epoch) := hbr.cell 2
        have d3 : wr.drew.cell? ⟨w.heap.size, 3, none⟩ = some (.slice A n c) := hbr.cell 3
        have d4 : wr.drew.cell? ⟨w.heap.size, 4, none⟩ = some (.slice B m d) := hbr.cell 4
        have heD : EnvIs wr.drew e A n c B m d := ((he.keep hS1).keep hSr).keep hD
        have hn' : n ≤ 1000 := by omega
        have hk0 : 0 ≤ e.kind := by omega
        have hlen := adB_len he hk0 hn'
        go_region_held3 (fun w' => w'.cell? ⟨w.heap.size, 0, none⟩ = some (.int .i64 e.kind) ∧ w'.cell? ⟨w.heap.size, 1, none⟩ = some (.int .u32 e.realm) ∧ w'.cell? ⟨w.heap.size, 2, none⟩ = some (.int .u32 e.epoch) ∧ w'.cell? ⟨w.heap.size, 3, none⟩ = some (.slice A n c) ∧ w'.cell? ⟨w.heap.size, 4, none⟩ = some (.slice B m d)) (first | exact ⟨p0, p1, p2, p3, p4⟩ | exact ⟨f0, f1, f2, f3, f4⟩ | exact ⟨d0, d1, d2, d3, d4⟩) ((first
          | (go_at_call 97; refine (ad_ref heD hk0 hn').mono ?_; rintro r w2 ⟨A2, m2, c2, rfl, hown2, hS2, hA2⟩; have hb2 := hbr.drew.step hS2 id; have f0 : w2.cell? ⟨w.heap.size, 0, none⟩ = some (.int .i64 e.kind) := hb2.cell 0; have f1 : w2.cell? ⟨w.heap.size, 1, none⟩ = some (.int .u32 e.realm) := hb2.cell 1; have f2 : w2.cell? ⟨w.heap.size, 2, none⟩ = some (.int .u32 e.epoch) := hb2.cell 2; have f3 : w2.cell? ⟨w.heap.size, 3, none⟩ = some (.slice A n c) := hb2.cell 3; have f4 : w2.cell? ⟨w.heap.size, 4, none⟩ = some (.slice B m d) := hb2.cell 4; have hm2 := hown2.sl.n_eq; have hq2 : m2 ≤ 40000 := (by omega); clear hm2; have heB := heD.body.keep hS2; clear heD)
          | (go_at_call 70; refine (text_ref hown2.sl heB (by omega) (by omega)).mono ?_; rintro r w3 ⟨A3, m3, c3, rfl, hown3, hS3, hA3⟩; have hb3 := hb2.step hS3 id; have p0 : w3.cell? ⟨w.heap.size, 0, none⟩ = some (.int .i64 e.kind) := hb3.cell 0; have p1 : w3.cell? ⟨w.heap.size, 1, none⟩ = some (.int .u32 e.realm) := hb3.cell 1; have p2 : w3.cell? ⟨w.heap.size, 2, none⟩ = some (.int .u32 e.epoch) := hb3.cell 2; have p3 : w3.cell? ⟨w.heap.size, 3, none⟩ = some (.slice A n c) := hb3.cell 3; have p4 : w3.cell? ⟨w.heap.size, 4, none⟩ = some (.slice B m d) := hb3.cell 4)))
        go_wp2
        go_ret2
        have hz1 := hS1.size
        have hzr := hSr.size
        have hz2 := hS2.size
        simp at hz2
        obtain rfl : 0 = E := by rw [← HE.out, if_pos Hris.out]
        obtain rfl : putB e = out := by rw [← Ho.out, if_pos Hris.out]
        exact ⟨A3, m3, c3, rfl, hown3.sl, ((((hS1.tr hSr).tr hD).tr hS2).tr hS3), fun k hk => by have := hA3 k hk; omega⟩
end Go.Proofs.Ytjnaiicgincndaa
