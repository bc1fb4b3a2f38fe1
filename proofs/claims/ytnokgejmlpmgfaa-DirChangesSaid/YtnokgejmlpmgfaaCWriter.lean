/- The writer of codec. -/
import Derived.Test.YtnokgejmlpmgfaaCRefN
import Derived.Test.YtnokgejmlpmgfaaCB1
namespace Go.Proofs.Ytnokgejmlpmgfaa
open Go.RowKit

/-- Numbers as cells. -/
def u64s (l : List Nat) : List Value := l.map fun (n : Nat) => Value.int .u64 (n : Int)
theorem u64s_get (l : List Nat) {i : Nat} (h : i < l.length) : (u64s l)[i]? = some (.int .u64 (l[i] : Int)) := by simp [u64s, h]

/-- The writer at block g has written q; F are its blocks. -/
structure WrIs (w : World) (F : Nat → Prop) (g : Nat) (q : List UInt8) : Prop where
  at_ : F g
  lt : ∀ k, F k → k < w.heap.size
  row : ∃ A n c, Blk w g 111 #[.slice A n c] ∧ Own w 5 1 A n c (u8s q) ∧ (∀ k, At A k → F k)

theorem WrIs.step {w w' : World} {F S : Nat → Prop} {g : Nat} {q : List UInt8} (h : WrIs w F g q) (hs : Step S w w') (hd : ∀ k, F k → ¬ S k) : WrIs w' F g q := by
  obtain ⟨A, n, c, h1, h2, h3⟩ := h.row
  exact ⟨h.at_, fun k hk => Nat.lt_of_lt_of_le (h.lt k hk) hs.size, A, n, c, h1.step hs (hd g h.at_), h2.step hs (fun k hk => hd k (h3 k hk)), h3⟩
theorem WrIs.keep {w w' : World} {F : Nat → Prop} {g : Nat} {q : List UInt8} (h : WrIs w F g q) (hs : Step (fun _ => False) w w') : WrIs w' F g q := h.step hs fun _ _ h => h

theorem writer_size : (Try.prog.info? 25).map (·.size) = some 1 := by kernel_rfl

theorem wr_far {w : World} {g n c : Nat} {A : Option Addr} {q : List UInt8} {cs : Array Value} (hb : Blk w g 111 cs) (ho : Own w 5 1 A n c (u8s q)) : ∀ k, At A k → ¬ k = g := fun k hk e => ho.ne_blk hb (by decide) (e ▸ hk)

/-- One append of the writer's row, seen as a step of the writer. -/
theorem WrIs.add {w w5 w6 w7 : World} {F : Nat → Prop} {g n c : Nat} {q r : List UInt8} {A A' : Option Addr} {n' c' : Nat} {cs : Array Value} (hFg : F g) (hlt : ∀ k, F k → k < w.heap.size) (hb : Blk w g 111 cs)
    (ho : Own w 5 1 A n c (u8s q)) (hA : ∀ k, At A k → F k) (hS5 : Step (fun _ => False) w w5) (hown : Own w6 5 1 A' n' c' (u8s q ++ u8s r)) (hS6 : Step (At A) w5 w6) (hat : ∀ k, At A' k → At A k ∨ w5.heap.size ≤ k)
    (hb7 : Blk w7 g 111 #[.slice A' n' c']) (hS7 : Step (fun k => k = g) w6 w7) :
    ∃ F', WrIs w7 F' g (q ++ r) ∧ Step F w w7 ∧ (∀ k, F' k → F k ∨ w.heap.size ≤ k) := by
  have hne := wr_far hb ho
  have hgw := hb.lt
  have h5 := hS5.size
  have h6 := hS6.size
  have h7 := hS7.size
  have hA' : ∀ k, At A' k → ¬ k = g := fun k hk e => by
    rcases hat k hk with h | h
    · exact hne k h e
    · omega
  refine ⟨fun k => F k ∨ (w.heap.size ≤ k ∧ k < w7.heap.size), ⟨.inl hFg, fun k hk => ?_, A', n', c', hb7, ?_, fun k hk => ?_⟩, ?_, fun k hk => ?_⟩
  · rcases hk with h | h
    · have := hlt k h; omega
    · exact h.2
  · rw [← u8s_append]
    exact hown.step hS7 hA'
  · rcases hat k hk with h | h
    · exact .inl (hA k h)
    · exact .inr ⟨by omega, by have := hown.lt k hk; omega⟩
  · exact ((hS5.mono (T := F) (fun _ _ h => h.elim)).trans hS6 (fun i _ h => hA i h)).trans hS7 (fun i _ h => by rw [h]; exact hFg)
  · rcases hk with h | h
    · exact .inl h
    · exact .inr h.1

set_option maxRecDepth 100000 in
theorem wr_raw {w : World} {F : Nat → Prop} {g : Nat} {q l : List UInt8} {B : Option Addr} {m d : Nat} (hW : WrIs w F g q) (hl : Sl w B m d 1 (u8s l)) (hq : q.length + l.length ≤ 1000000000) :
    Calls Try.prog 54 #[.pointer (some ⟨g, 0, none⟩), .slice B m d] w fun e w' => (∃ v, e = .returned v) ∧ ∃ F', WrIs w' F' g (q ++ l) ∧ Step F w w' ∧ (∀ k, F' k → F k ∨ w.heap.size ≤ k) := by
  obtain ⟨i0, hi0, hz0, hz1, hz2⟩ := info_parts byte_parts
  obtain ⟨A, n, c, hb, ho, hA⟩ := hW.row
  have hne := wr_far hb ho
  have c0 : w.cell? ⟨g, 0, none⟩ = some (.slice A n c) := hb.cell 0
  have hn := ho.sl.n_eq
  have hm := hl.n_eq
  have hnm : n + m ≤ 1000000000 := by omega
  clear hn hm
  go_enter Try.func54, Try.ntmps54
  go_wp2_with (first
    | (at_builtin; refine wl_append _ rfl _ _ 25 rfl 5 i0 _ 1 1 Try.underlying25 hi0 hz0 hz1 hz2 rfl (by decide) A n c _ rfl ho B m d (u8s l) rfl hl (u8s_one _) (by simp [maxLen]; omega) (by omega) ?_; intro A6 c6 w6 hown6 hS6 hat6)
    | (refine wl_put _ rfl 25 _ _ rfl g 0 rfl (.slice A6 (n + m) c6) rfl rfl rfl writer_size 111 #[.slice A n c] (hb.step hS6 (fun h => hne g h rfl)) (by simp) ?_; intro w7 hb7 hS7))
  go_end0
  exact ⟨⟨_, rfl⟩, WrIs.add hW.at_ hW.lt hb ho hA (Step.refl _ _) hown6 hS6 hat6 hb7 hS7⟩

theorem flat_takeN {l : List Nat} {k : Nat} (hk : k < l.length) : (l.take (k + 1)).flatMap nM = (l.take k).flatMap nM ++ nM l[k] := by
  rw [List.take_succ_eq_append_getElem hk, List.flatMap_append]
  simp
theorem flat_len {l : List Nat} (h : ∀ x ∈ l, x < 2 ^ 64) : (l.flatMap nM).length ≤ l.length * 10 := by
  induction l with
  | nil => simp
  | cons x l ih =>
    have h1 := nM_ten (h x (by simp))
    have h2 := ih (fun y hy => h y (by simp [hy]))
    rw [List.flatMap_cons, List.length_append, List.length_cons, Nat.add_mul]
    omega

set_option maxRecDepth 100000 in
set_option maxHeartbeats 1000000 in
theorem wr_n {w : World} {F : Nat → Prop} {g : Nat} {q : List UInt8} {l : List Nat} {C : Option Addr} {m d : Nat} (hW : WrIs w F g q) (hl : Sl w C m d 1 (u64s l)) (hC : ∀ k, Ft C m k → ¬ F k) (h64 : ∀ x ∈ l, x < 2 ^ 64) (hq : q.length + l.length * 10 ≤ 1000000000) :
    Calls Try.prog 53 #[.pointer (some ⟨g, 0, none⟩), .slice C m d] w fun e w' => (∃ v, e = .returned v) ∧ ∃ F', WrIs w' F' g (q ++ l.flatMap nM) ∧ Step F w w' ∧ (∀ k, F' k → F k ∨ w.heap.size ≤ k) := by
  obtain ⟨i0, hi0, hz0, hz1, hz2⟩ := info_parts byte_parts
  have hm : m = l.length := by have := hl.len; simp [u64s] at this; omega
  have hft : ∀ k, Ft C m k → k < w.heap.size := fun k hk => hl.ft_lt (by omega) hk
  have Hm := Lib.hid hm
  have hmb : m ≤ 1000000000 := by omega
  clear hm
  go_enter Try.func53, Try.ntmps53
  go_wp2
  go_loopw [10] (fun i wr => ∃ (k : Nat) (F' : Nat → Prop), i = .int .i64 k ∧ k ≤ m ∧ WrIs wr F' g (q ++ (l.take k).flatMap nM) ∧ Step F w wr ∧ (∀ j, F' j → F j ∨ w.heap.size ≤ j)) (fun i _ => m - (intOf i).toNat)
  case atStart => exact ⟨0, F, rfl, Nat.zero_le _, by simpa using hW, Step.refl _ _, fun j hj => .inl hj⟩
  case round =>
    obtain ⟨k, F', rfl, hk, hWr, hS, hF'⟩ := hrel
    have hm := Hm.out
    have hlr : Sl wr C m d 1 (u64s l) := hl.step hS hC
    by_cases hlt : k < m
    · have hkl : k < l.length := by omega
      clear hm
      obtain ⟨b, off, rfl, u, hu, hcell⟩ := hlr.at_ (k := k) hlt
      rw [u64s_get _ hkl, Option.some.injEq] at hu
      subst hu
      have hx64 := h64 _ (List.getElem_mem hkl)
      have hqb : q.length + ((l.take k).flatMap nM).length + 10 ≤ 1000000000 := by
        have h1 := flat_len (l := l.take k) (fun x hx => h64 x (List.mem_of_mem_take hx))
        rw [List.length_take] at h1
        have h2 : min k l.length = k := by omega
        rw [h2] at h1
        omega
      go_wp2
      go_loopw [5] (fun v wr2 => ∃ (x : Nat) (F2 : Nat → Prop) (q2 : List UInt8), v = .int .u64 x ∧ x < 2 ^ 64 ∧ WrIs wr2 F2 g q2 ∧ Hid (q2 ++ nM x = q ++ (l.take k).flatMap nM ++ nM l[k]) ∧ Step F w wr2 ∧ (∀ j, F2 j → F j ∨ w.heap.size ≤ j)) (fun v _ => (intOf v).toNat)
      case atStart => exact ⟨l[k], F', _, rfl, hx64, hWr, Lib.hid rfl, hS, hF'⟩
      case round =>
        obtain ⟨x, F2, q2, rfl, hx, hW2, Hq2, hS2, hF2⟩ := hrel
        obtain ⟨A, n, c, hb, ho, hA⟩ := hW2.row
        have hne := wr_far hb ho
        have hn : n + 1 ≤ 1000000000 := by
          have h1 := ho.sl.n_eq
          have h2 := congrArg List.length Hq2.out
          have h3 := nM_ten hx64
          have h4 : 0 < (nM x).length := by rw [nM]; split <;> simp
          simp at h2
          simp at hqb
          omega
        have c0 : wr.cell? ⟨g, 0, none⟩ = some (.slice A n c) := hb.cell 0
        by_cases hs : x < 128
        · go_wp2_with (first
            | (at_builtin; refine wl_append _ rfl _ _ 25 rfl 5 i0 _ 1 1 Try.underlying25 hi0 hz0 hz1 hz2 rfl (by decide) A n c _ rfl (ho.alloc _) _ 1 1 [.int .u8 (x : Int)] rfl (sl_one _ _ _) (by simp [Value.oneCell']) (by simp [maxLen]; omega) (by omega) ?_; intro A6 c6 w6 hown6 hS6 hat6)
            | (refine wl_put _ rfl 25 _ _ rfl g 0 rfl (.slice A6 (n + 1) c6) rfl rfl rfl writer_size 111 #[.slice A n c] ((hb.alloc _).step hS6 (fun h => hne g h rfl)) (by simp) ?_; intro w7 hb7 hS7))
          rw [← cell_small hs] at hown6
          obtain ⟨F3, hW3, hS3, hF3⟩ := WrIs.add hW2.at_ hW2.lt hb ho hA ((Step.refl _ _).alloc _) hown6 hS6 hat6 hb7 hS7
          have hsz := hS2.size
          refine ⟨⟨k + 1, F3, by go_num, by omega, ?_, hS2.trans hS3 (fun i hi h => by rcases hF2 i h with h | h; exact h; omega), fun j hj => ?_⟩, by simp only [intOf]; omega⟩
          · rw [flat_takeN hkl, ← List.append_assoc, ← Hq2.out, nM_small hs]
            exact hW3
          · rcases hF3 j hj with h | h
            · exact hF2 j h
            · exact .inr (by omega)
        · go_wp2_with (first
            | (at_builtin; refine wl_append _ rfl _ _ 25 rfl 5 i0 _ 1 1 Try.underlying25 hi0 hz0 hz1 hz2 rfl (by decide) A n c _ rfl (ho.alloc _) _ 1 1 [.int .u8 (bits .or .u8 ((x : Int) % 256) 128)] rfl (sl_one _ _ _) (by simp [Value.oneCell']) (by simp [maxLen]; omega) (by omega) ?_; intro A6 c6 w6 hown6 hS6 hat6)
            | (refine wl_put _ rfl 25 _ _ rfl g 0 rfl (.slice A6 (n + 1) c6) rfl rfl rfl writer_size 111 #[.slice A n c] ((hb.alloc _).step hS6 (fun h => hne g h rfl)) (by simp) ?_; intro w7 hb7 hS7))
          rw [← cell_goes x] at hown6
          obtain ⟨F3, hW3, hS3, hF3⟩ := WrIs.add hW2.at_ hW2.lt hb ho hA ((Step.refl _ _).alloc _) hown6 hS6 hat6 hb7 hS7
          have hsz := hS2.size
          refine ⟨⟨x / 128, F3, _, congrArg (Value.int .u64) (by omega), by omega, hW3, Lib.hid ?_, hS2.trans hS3 (fun i hi h => by rcases hF2 i h with h | h; exact h; omega), fun j hj => ?_⟩, by simp only [intOf]; omega⟩
          · rw [← Hq2.out, nM_big hs]
            simp
          · rcases hF3 j hj with h | h
            · exact hF2 j h
            · exact .inr (by omega)
    · rw [List.take_of_length_le (by omega)] at hWr
      clear hm
      go_wp2
      go_end0
      exact ⟨⟨_, rfl⟩, F', hWr, hS, hF'⟩

set_option maxRecDepth 100000 in
theorem wr_bytes {w : World} {F : Nat → Prop} {g : Nat} {q : List UInt8} (hW : WrIs w F g q) (hq : q.length ≤ 1000000000) :
    Calls Try.prog 56 #[.pointer (some ⟨g, 0, none⟩)] w fun e w' => ∃ A n c, e = .returned (.slice A n c) ∧ Own w' 5 1 A n c (u8s q) ∧ Step (fun _ => False) w w' ∧ (∀ k, At A k → w.heap.size ≤ k) := by
  obtain ⟨i0, hi0, hz0, hz1, hz2⟩ := info_parts byte_parts
  obtain ⟨A, n, c, hb, ho, hA⟩ := hW.row
  have c0 : w.cell? ⟨g, 0, none⟩ = some (.slice A n c) := hb.cell 0
  have hn := ho.sl.n_eq
  have hn' : n ≤ 1000000000 := by omega
  clear hn
  go_enter Try.func56, Try.ntmps56
  go_wp2_with (at_builtin; refine wl_append_new _ rfl _ _ 25 rfl 5 i0 _ 1 1 Try.underlying25 hi0 hz0 hz1 hz2 rfl (by decide) rfl A n c (u8s q) rfl ho.sl (u8s_one _) (by simp [maxLen]; omega) (by omega) ?_; intro A1 c1 w1 hown1 hS1 hat1)
  go_ret
  exact ⟨A1, n, c1, rfl, hown1, hS1, fun k hk => (hat1 k hk).1⟩

/-- Steps of the writer one behind the other. -/
theorem wr_then {w w1 w2 : World} {F F1 F2 : Nat → Prop} (hS1 : Step F w w1) (h1 : ∀ k, F1 k → F k ∨ w.heap.size ≤ k) (hS2 : Step F1 w1 w2) (h2 : ∀ k, F2 k → F1 k ∨ w1.heap.size ≤ k) : Step F w w2 ∧ (∀ k, F2 k → F k ∨ w.heap.size ≤ k) := by
  have := hS1.size
  refine ⟨hS1.trans hS2 (fun i hi h => by rcases h1 i h with h | h; exact h; omega), fun k hk => ?_⟩
  rcases h2 k hk with h | h
  · exact h1 k h
  · exact .inr (by omega)

set_option maxRecDepth 100000 in
theorem wr_text {w : World} {F : Nat → Prop} {g : Nat} {q t : List UInt8} {B C : Option Addr} {n e d : Nat} (hW : WrIs w F g q) (hl : Sl w C 1 d 1 [.slice B n e]) (hC : ∀ k, Ft C 1 k → ¬ F k) (ht : Sl w B n e 1 (u8s t)) (hB : ∀ k, Ft B n k → ¬ F k) (hq : q.length + t.length + 10 ≤ 1000000000) :
    Calls Try.prog 55 #[.pointer (some ⟨g, 0, none⟩), .slice C 1 d] w fun e w' => (∃ v, e = .returned v) ∧ ∃ F', WrIs w' F' g (q ++ nM t.length ++ t) ∧ Step F w w' ∧ (∀ k, F' k → F k ∨ w.heap.size ≤ k) := by
  have hftC : ∀ k, Ft C 1 k → k < w.heap.size := fun k hk => hl.ft_lt (by omega) hk
  have hftB : ∀ k, Ft B n k → k < w.heap.size := fun k hk => ht.ft_lt (by omega) hk
  have Hn := Lib.hid ht.n_eq
  go_enter Try.func55, Try.ntmps55
  go_wp2
  go_loopw [8] (fun i wr => (i = .int .i64 0 ∧ wr = w) ∨ (i = .int .i64 1 ∧ ∃ F', WrIs wr F' g (q ++ nM t.length ++ t) ∧ Step F w wr ∧ (∀ k, F' k → F k ∨ w.heap.size ≤ k))) (fun i _ => 1 - (intOf i).toNat)
  case atStart => exact .inl ⟨rfl, rfl⟩
  case round =>
    rcases hrel with ⟨rfl, rfl⟩ | ⟨rfl, F', hWr, hS, hF'⟩
    · obtain ⟨b, off, rfl, _, hc⟩ := hl.pos (by omega)
      have hc0 : wr.cell? ⟨b, off, none⟩ = some (.slice B n e) := hc 0 _ rfl
      have hnb : n < 2 ^ 64 := by have := Hn.out; omega
      go_wp2_with (first
        | (go_at_call 53; refine (wr_n (l := [n]) (hW.keep ((Step.refl _ _).alloc _)) (sl_one _ _ _) (fun k hk h => by have := hW.lt k h; obtain ⟨_, a, e, rfl⟩ := hk; cases e; simp at this) (by simpa using hnb) (by simp; omega)).mono ?_; rintro e1 w1 ⟨⟨v1, rfl⟩, F1, hW1, hS1, hF1⟩)
        | (go_at_call 54; refine (wr_raw hW1 ((ht.alloc _).step hS1 hB) (by have := nM_ten hnb; simp; omega)).mono ?_; rintro e2 w2 ⟨⟨v2, rfl⟩, F2, hW2, hS2, hF2⟩))
      have hal : Step F wr (wr.alloc (.cells #[.int .u64 (n : Int)] 113)) := (Step.refl _ _).alloc _
      obtain ⟨h3, h4⟩ := wr_then hal (fun k hk => .inl hk) hS1 hF1
      obtain ⟨h5, h6⟩ := wr_then h3 h4 hS2 hF2
      have hn := Hn.out
      refine ⟨.inr ⟨rfl, F2, ?_, h5, h6⟩, by decide⟩
      rw [← hn]
      simpa using hW2
    · go_wp2
      go_end0
      exact ⟨⟨_, rfl⟩, F', hWr, hS, hF'⟩

set_option maxRecDepth 100000 in
set_option maxHeartbeats 1000000 in
theorem wr_ids {w : World} {F : Nat → Prop} {g : Nat} {q : List UInt8} {x : List Id} {B : Option Addr} {n d : Nat} (hW : WrIs w F g q) (ht : Sl w B n d 32 (x.flatMap idc)) (hB : ∀ k, Ft B n k → ¬ F k) (hq : q.length ≤ 100000000) (hn : n ≤ 100000) :
    Calls Try.prog 133 #[.pointer (some ⟨g, 0, none⟩), .slice B n d] w fun e w' => (∃ v, e = .returned v) ∧ ∃ F', WrIs w' F' g (q ++ nM x.length ++ idsB x) ∧ Step F w w' ∧ (∀ k, F' k → F k ∨ w.heap.size ≤ k) := by
  have hft : ∀ k, Ft B n k → k < w.heap.size := fun k hk => ht.ft_lt (by omega) hk
  have Hn := Lib.hid (ht.n_flat idc_length (by omega))
  have hnb : n < 2 ^ 64 := by omega
  go_enter Try.func133, Try.ntmps133
  go_wp2_with (go_at_call 53; refine (wr_n (l := [n]) (hW.keep ((Step.refl _ _).alloc _)) (sl_one _ _ _) (fun k hk h => by have := hW.lt k h; obtain ⟨_, a, e, rfl⟩ := hk; cases e; simp at this) (by simpa using hnb) (by simp; omega)).mono ?_; rintro e1 w1 ⟨⟨v1, rfl⟩, F1, hW1, hS1, hF1⟩)
  have hal : Step F w (w.alloc (.cells #[.int .u64 (n : Int)] 113)) := (Step.refl _ _).alloc _
  obtain ⟨h3, h4⟩ := wr_then hal (fun k hk => .inl hk) hS1 hF1
  have h10 := nM_ten hnb
  go_loopw [14] (fun i wr => ∃ (k : Nat) (F' : Nat → Prop), i = .int .i64 k ∧ k ≤ n ∧ WrIs wr F' g (q ++ nM n ++ idsB (x.take k)) ∧ Step F w wr ∧ (∀ j, F' j → F j ∨ w.heap.size ≤ j)) (fun i _ => n - (intOf i).toNat)
  case atStart => exact ⟨0, F1, rfl, Nat.zero_le _, by simpa [idsB] using hW1, h3, h4⟩
  case round =>
    obtain ⟨k, F', rfl, hk, hWr, hS, hF'⟩ := hrel
    by_cases hlt : k < n
    · have hkx : k < x.length := by have := Hn.out; omega
      obtain ⟨b, off, rfl, hc⟩ := (ht.step hS hB).elem idc_length hkx (by omega)
      have hlen : (idsB (x.take k)).length ≤ 100000 * 32 := by
        rw [idsB_length, List.length_take]
        exact Nat.mul_le_mul (by omega) (Nat.le_refl _)
      go_wp2_with (first
        | (refine wl_load rfl 85 _ rfl b (off + k * 32) rfl (idc x[k]) _ Try.underlying85 rfl (by rw [id_size, idc_length]) hc ?_)
        | (refine wl_alloc rfl 85 rfl _ id_zero ?_; intro w2 hb2 hS2 hw2)
        | (refine wl_store_all rfl 85 _ _ rfl wr.heap.size rfl (idc x[k]) rfl (by rw [id_size, idc_length]) (idc_one _) 85 _ hb2 (by rw [arr_size, zeros_length, idc_length]) ?_; intro w3 hb3 hS3 hw3)
        | (go_at_call 54; refine (wr_raw ((hWr.keep hS2).step hS3 (fun j hj e => by have := hWr.lt j hj; omega)) (hb3.sl_ (idc_length _) (by decide)) (by have := x[k].2; simp; omega)).mono ?_; rintro e4 w4 ⟨⟨v4, rfl⟩, F4, hW4, hS4, hF4⟩))
      have hS23 : Step F' wr w3 := (hS2.mono (T := F') (fun _ _ h => h.elim)).trans hS3 (fun i hi h => by omega)
      obtain ⟨h5, h6⟩ := wr_then hS23 (fun k hk => .inl hk) hS4 hF4
      obtain ⟨h7, h8⟩ := wr_then hS hF' h5 h6
      refine ⟨⟨k + 1, F4, by go_num, by omega, ?_, h7, h8⟩, by simp only [intOf]; omega⟩
      rw [idsB_take hkx, ← List.append_assoc]
      exact hW4
    · rw [List.take_of_length_le (by have := Hn.out; omega), Hn.out] at hWr
      go_wp2
      go_end0
      exact ⟨⟨_, rfl⟩, F', hWr, hS, hF'⟩
end Go.Proofs.Ytnokgejmlpmgfaa
