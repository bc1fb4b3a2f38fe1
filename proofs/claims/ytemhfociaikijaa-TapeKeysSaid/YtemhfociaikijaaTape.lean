/- Tapes: what New, Left, Take, Clone, Key and the reference's Take do. -/
import Derived.Test.YtemhfociaikijaaProg
import Derived.Test.YtemhfociaikijaaLib
namespace Go.Proofs.Ytemhfociaikijaa
open Go.RowKit

theorem byte_info : (Try.prog.info? 5).map (fun i => (i.zero, i.size, i.bytes)) = some (some (.int .u8 0), 1, 1) := by kernel_rfl

/-- A tape at block g with the bytes l left; F: its blocks. -/
def TapeIs (w : World) (F : Nat → Prop) (g : Nat) (l : List UInt8) : Prop :=
  ∃ A n c, Blk w g 83 #[.slice A n c] ∧ Sl w A n c 1 (u8s l) ∧ F g ∧ ∀ k, Ft A n k → F k

theorem TapeIs.step {w w' : World} {F S : Nat → Prop} {g : Nat} {l : List UInt8} (h : TapeIs w F g l) (hs : Step S w w') (hd : ∀ k, F k → ¬ S k) : TapeIs w' F g l := by
  obtain ⟨A, n, c, hb, hl, hg, hA⟩ := h
  exact ⟨A, n, c, hb.step hs (hd g hg), hl.step hs (fun k hk => hd k (hA k hk)), hg, hA⟩

theorem tape_left {w : World} {F : Nat → Prop} {g : Nat} {l : List UInt8} (h : TapeIs w F g l) :
    Calls Try.prog 16 #[.pointer (some ⟨g, 0, none⟩)] w fun e w' => e = .returned (.int .i64 l.length) ∧ w = w' := by
  obtain ⟨A, n, c, hb, hl, hg, hA⟩ := h
  have hn : n = l.length := by have := hl.len; simp [u8s] at this; omega
  subst hn
  have hc := hb.cell 0
  simp at hc
  go_enter Try.func16, Try.ntmps16
  go_wp2
  go_ret
  exact ⟨rfl, rfl⟩

theorem tape_left_nil (w : World) :
    Calls Try.prog 16 #[.pointer none] w fun e w' => e = .returned (.int .i64 0) ∧ w = w' := by
  go_enter Try.func16, Try.ntmps16
  go_wp2
  go_ret
  exact ⟨rfl, rfl⟩

theorem tape_new {w : World} {A : Option Addr} {n c : Nat} {l : List UInt8} (h : Sl w A n c 1 (u8s l)) (hn : n ≤ 1000000000000) :
    Calls Try.prog 13 #[.slice A n c] w fun e w' => ∃ F g, e = .returned (.pointer (some ⟨g, 0, none⟩)) ∧ TapeIs w' F g l ∧ Step (fun _ => False) w w' ∧
      ∀ k, F k → w.heap.size ≤ k ∧ k < w'.heap.size := by
  obtain ⟨i0, hi, hz, hz1, hz2⟩ := info_parts byte_info
  go_enter Try.func13, Try.ntmps13
  go_wp2_with (at_builtin; refine wl_append_new _ rfl _ _ _ rfl _ i0 _ 1 1 Try.underlying22 hi hz hz1 hz2 rfl (by decide) rfl A n c (u8s l) rfl h (u8s_one l) (by simp [maxLen]; omega) (by omega) ?_; intro A' c' w' hown hstep hat)
  go_ret
  refine ⟨fun k => w.heap.size ≤ k ∧ k < w'.heap.size + 1, w'.heap.size, rfl, ⟨A', n, c', Blk.new _ _ _, hown.sl.alloc _, ⟨hstep.size, by omega⟩, fun k hk => ⟨(hat k hk.at_).1, by have := (hat k hk.at_).2; omega⟩⟩, hstep.alloc _, fun k hk => by simpa using hk⟩

theorem tape_clone {w : World} {F : Nat → Prop} {g : Nat} {l : List UInt8} (h : TapeIs w F g l) (hn : l.length ≤ 1000000000000) :
    Calls Try.prog 17 #[.pointer (some ⟨g, 0, none⟩)] w fun e w' => ∃ F g, e = .returned (.pointer (some ⟨g, 0, none⟩)) ∧ TapeIs w' F g l ∧ Step (fun _ => False) w w' ∧
      ∀ k, F k → w.heap.size ≤ k ∧ k < w'.heap.size := by
  obtain ⟨A, n, c, hb, hl, hg, hA⟩ := h
  have hn : n ≤ 1000000000000 := by have := hl.len; simp [u8s] at this; omega
  have hc := hb.cell 0
  simp at hc
  go_enter Try.func17, Try.ntmps17
  go_wp2_with (go_at_call 13; refine (tape_new hl hn).mono ?_; rintro e w' ⟨F', g', rfl, hT, hS, hF⟩)
  go_ret
  exact ⟨F', g', rfl, hT, hS, hF⟩

theorem tape_clone_nil (w : World) :
    Calls Try.prog 17 #[.pointer none] w fun e w' => e = .returned (.pointer none) ∧ w = w' := by
  go_enter Try.func17, Try.ntmps17
  go_wp2
  go_ret
  exact ⟨rfl, rfl⟩

/-- What Take answers, the error's number, what is left. -/
def takeM (l : List UInt8) (n : Int) : List UInt8 × Int × List UInt8 :=
  if n < 0 then ([], 1, l) else if (l.length : Int) < n then ([], 60, l) else (l.take n.toNat, 0, l.drop n.toNat)

/-- The answer of a Take: bytes that are new, and a number. -/
def TakeEnd (w : World) (F : Nat → Prop) (g : Nat) (is : World → (Nat → Prop) → Nat → List UInt8 → Prop) (r : List UInt8 × Int × List UInt8) (e : Ending) (w' : World) : Prop :=
  ∃ A m c, e = .returned (.tuple #[.slice A m c, .int .i64 r.2.1]) ∧ Sl w' A m c 1 (u8s r.1) ∧ (∀ k, At A k → w.heap.size ≤ k ∧ k < w'.heap.size) ∧ is w' F g r.2.2 ∧ Step (fun k => k = g) w w'

theorem at_none {Q : Nat → Prop} : ∀ k, At none k → Q k := fun _ h => (at_nil h).elim

theorem Sl.ne_blk {w : World} {A : Option Addr} {n c : Nat} {l : List UInt8} (h : Sl w A n c 1 (u8s l)) (hn : 0 < n) {g : Nat} {t : TypeId} {B : Option Addr} {m d : Nat} (hb : Blk w g t #[.slice B m d]) : ¬ Ft A n g := by
  obtain ⟨b, off, rfl, _, hc⟩ := h.pos (by omega)
  rintro ⟨_, a, e, rfl⟩
  injection e with e
  subst e
  have hl : 0 < l.length := by have := h.len; simp [u8s] at this; omega
  have h1 := hc 0 _ (u8s_get l 0 hl)
  rw [hb.cell] at h1
  have : off = 0 := by
    rcases Nat.eq_zero_or_pos off with h | h
    · exact h
    · rw [Array.getElem?_eq_none (by simp; omega)] at h1; cases h1
  subst this
  simp [u8v] at h1

theorem tape_take_end {w w' : World} {F : Nat → Prop} {g n : Nat} {l : List UInt8} {A A' A2 : Option Addr} {c' m2 c2 m c : Nat} (hown : Own w' 5 1 A' n c' (u8s (l.take n))) (hstep : Step (fun _ => False) w w')
    (hat : ∀ k, At A' k → w.heap.size ≤ k ∧ k < w'.heap.size) (hb : Blk w g 83 #[.slice A m c]) (hg : F g) (hA : ∀ k, Ft A m k → F k) (hne : ¬ Ft A m g)
    (hd : Sl w A2 m2 c2 1 (u8s (l.drop n))) (hA2 : ∀ k, Ft A2 m2 k → Ft A m k) :
    TakeEnd w F g TapeIs (l.take n, 0, l.drop n) (.returned (.tuple #[.slice A' n c', .int .i64 0])) (w'.setCell ⟨g, 0, none⟩ (.slice A2 m2 c2)) := by
  have hs : Step (fun k => k = g) w' (w'.setCell ⟨g, 0, none⟩ (.slice A2 m2 c2)) := Step.set1 _ _ _ _
  have hglt := hb.lt
  refine ⟨A', n, c', rfl, hown.sl.step hs (fun k hk e => ?_), fun k hk => by simpa using hat k hk, ⟨A2, m2, c2, ?_, (hd.keep hstep).step hs (fun k hk e => hne (hA2 g (e ▸ hk))), hg, fun k hk => hA k (hA2 k hk)⟩, (hstep.mono (fun _ _ h => h.elim)).tr hs⟩
  · subst e; have := (hat _ hk.at_).1; omega
  · have := (hb.step hstep (fun h => h)).set_ 0 (.slice A2 m2 c2)
    simpa using this

set_option maxRecDepth 100000 in
theorem tape_take {w : World} {F : Nat → Prop} {g : Nat} {l : List UInt8} (h : TapeIs w F g l) (hl : l.length ≤ 1000000000000) (k : Int) :
    Calls Try.prog 14 #[.pointer (some ⟨g, 0, none⟩), .int .i64 k] w (TakeEnd w F g TapeIs (takeM l k)) := by
  have h' := h
  obtain ⟨A, n, c, hb, hs, hg, hA⟩ := h
  have hn : n = l.length := by have := hs.len; simp [u8s] at this; omega
  subst hn
  have hc := hb.cell 0
  simp at hc
  have hle := hs.le
  have hcap : c ≤ 9223372036854775807 := by have := hs.cap; simpa [maxLen] using this
  obtain ⟨i0, hi, hz, hz1, hz2⟩ := info_parts byte_info
  unfold takeM
  by_cases h1 : k < 0
  · rw [if_pos h1]
    go_enter Try.func14, Try.ntmps14
    go_wp2
    go_ret2
    exact ⟨none, 0, 0, rfl, Sl.nil _ _, at_none, h', Step.refl _ _⟩
  · rw [if_neg h1]
    by_cases h2 : (l.length : Int) < k
    · rw [if_pos h2]
      go_enter Try.func14, Try.ntmps14
      go_wp2
      go_ret2
      exact ⟨none, 0, 0, rfl, Sl.nil _ _, at_none, h', Step.refl _ _⟩
    · rw [if_neg h2]
      obtain ⟨n, rfl⟩ := Int.eq_ofNat_of_zero_le (show 0 ≤ k by omega)
      have h3 : n ≤ l.length := by omega
      clear h1 h2
      by_cases h0 : n = 0
      · subst h0
        go_enter Try.func14, Try.ntmps14
        go_wp2
        go_ret2
        exact ⟨none, 0, 0, rfl, by simpa [u8s] using Sl.nil _ _, at_none, by simpa using h', Step.refl _ _⟩
      · have h0' : ((n : Int) == 0) = false := by simp; omega
        have hcut : Sl w A n n 1 (u8s (l.take n)) := by rw [← u8s_take]; simpa using hs.take h3 (show n ≤ c by omega) (Nat.le_refl n)
        have hdrop := hs.drop h3
        rw [u8s_drop, Nat.mul_one] at hdrop
        have hne := hs.ne_blk (by omega) hb
        have hfr := hb.frozen 0
        go_enter Try.func14, Try.ntmps14
        go_wp2_with (first | (go_at_call 16; refine (tape_left h').mono ?_; rintro e w' ⟨rfl, rfl⟩) | (at_builtin; refine wl_append_new _ rfl _ _ _ rfl _ i0 _ 1 1 Try.underlying22 hi hz hz1 hz2 rfl (by decide) rfl A n n (u8s (l.take n)) rfl hcut (u8s_one _) (by simp [maxLen]; omega) (by omega) ?_; intro A' c' w' hown hstep hat; have hb' := hb.step hstep (fun h => h); have hc' := hb'.cell 0; have hf' := hb'.frozen 0; simp at hc'))
        · have hcn : c = n := by assumption
          rw [if_pos hcn, show c - n = 0 by omega] at hdrop
          go_ret2
          exact tape_take_end hown hstep hat hb hg hA hne hdrop (fun k hk => ⟨by have := hk.1; omega, hk.2⟩)
        · have hcn : ¬ c = n := by assumption
          rw [if_neg hcn] at hdrop
          go_ret2
          exact tape_take_end hown hstep hat hb hg hA hne hdrop (fun k hk => by
            have : Ft (if c = n then A else A.map (·.add n)) (l.length - n) k := by rw [if_neg hcn]; exact hk
            exact ft_cut this)

/-- The reference's suite at block g, with the bytes l left to draw; m, r, x, y, k: its other fields. -/
def RefIs (m r x y k : Value) (w : World) (F : Nat → Prop) (g : Nat) (l : List UInt8) : Prop :=
  ∃ A n c, Blk w g 30 #[m, .slice A n c, r, x, y, k] ∧ Sl w A n c 1 (u8s l) ∧ F g ∧ (∀ j, Ft A n j → F j) ∧ ¬ Ft A n g

theorem RefIs.step {m r x y k : Value} {w w' : World} {F S : Nat → Prop} {g : Nat} {l : List UInt8} (h : RefIs m r x y k w F g l) (hs : Step S w w') (hd : ∀ k, F k → ¬ S k) : RefIs m r x y k w' F g l := by
  obtain ⟨A, n, c, hb, hl, hg, hA, hne⟩ := h
  exact ⟨A, n, c, hb.step hs (hd g hg), hl.step hs (fun k hk => hd k (hA k hk)), hg, hA, hne⟩

theorem ref_take_end {mm r x y k : Value} {w w' : World} {F : Nat → Prop} {g n : Nat} {l : List UInt8} {A A' A2 : Option Addr} {c' m2 c2 m c : Nat} (hown : Own w' 5 1 A' n c' (u8s (l.take n))) (hstep : Step (fun _ => False) w w')
    (hat : ∀ k, At A' k → w.heap.size ≤ k ∧ k < w'.heap.size) (hb : Blk w g 30 #[mm, .slice A m c, r, x, y, k]) (hg : F g) (hA : ∀ k, Ft A m k → F k) (hne : ¬ Ft A m g)
    (hd : Sl w A2 m2 c2 1 (u8s (l.drop n))) (hA2 : ∀ k, Ft A2 m2 k → Ft A m k) :
    TakeEnd w F g (RefIs mm r x y k) (l.take n, 0, l.drop n) (.returned (.tuple #[.slice A' n c', .int .i64 0])) (w'.setCell ⟨g, 1, none⟩ (.slice A2 m2 c2)) := by
  have hs : Step (fun k => k = g) w' (w'.setCell ⟨g, 1, none⟩ (.slice A2 m2 c2)) := Step.set1 _ _ _ _
  have hglt := hb.lt
  refine ⟨A', n, c', rfl, hown.sl.step hs (fun k hk e => ?_), fun k hk => by simpa using hat k hk, ⟨A2, m2, c2, ?_, (hd.keep hstep).step hs (fun k hk e => hne (hA2 g (e ▸ hk))), hg, fun k hk => hA k (hA2 k hk), fun hk => hne (hA2 _ hk)⟩, (hstep.mono (fun _ _ h => h.elim)).tr hs⟩
  · subst e; have := (hat _ hk.at_).1; omega
  · have := (hb.step hstep (fun h => h)).set_ 1 (.slice A2 m2 c2)
    simpa using this

set_option maxRecDepth 100000 in
theorem ref_take {m r x y o : Value} {w : World} {F : Nat → Prop} {g : Nat} {l : List UInt8} (h : RefIs m r x y o w F g l) (hl : l.length ≤ 1000000000000) (k : Int) :
    Calls Try.prog 15 #[.pointer (some ⟨g, 0, none⟩), .int .i64 k] w (TakeEnd w F g (RefIs m r x y o) (takeM l k)) := by
  have h' := h
  obtain ⟨A, n, c, hb, hs, hg, hA, hne⟩ := h
  have hn : n = l.length := by have := hs.len; simp [u8s] at this; omega
  subst hn
  have hc := hb.cell 1
  simp at hc
  have hle := hs.le
  have hcap : c ≤ 9223372036854775807 := by have := hs.cap; simpa [maxLen] using this
  obtain ⟨i0, hi, hz, hz1, hz2⟩ := info_parts byte_info
  unfold takeM
  by_cases h1 : k < 0
  · rw [if_pos h1]
    go_enter Try.func15, Try.ntmps15
    go_wp2
    go_ret2
    exact ⟨none, 0, 0, rfl, Sl.nil _ _, at_none, h', Step.refl _ _⟩
  · rw [if_neg h1]
    by_cases h2 : (l.length : Int) < k
    · rw [if_pos h2]
      go_enter Try.func15, Try.ntmps15
      go_wp2
      go_ret2
      exact ⟨none, 0, 0, rfl, Sl.nil _ _, at_none, h', Step.refl _ _⟩
    · rw [if_neg h2]
      obtain ⟨n, rfl⟩ := Int.eq_ofNat_of_zero_le (show 0 ≤ k by omega)
      have h3 : n ≤ l.length := by omega
      clear h1 h2
      have hcut : Sl w A n c 1 (u8s (l.take n)) := by rw [← u8s_take]; simpa using hs.take h3 (Nat.le_refl c) (show n ≤ c by omega)
      have hdrop := hs.drop h3
      rw [u8s_drop, Nat.mul_one] at hdrop
      have hfr := hb.frozen 1
      go_enter Try.func15, Try.ntmps15
      go_wp2_with (at_builtin; refine wl_append_new _ rfl _ _ _ rfl _ i0 _ 1 1 Try.underlying22 hi hz hz1 hz2 rfl (by decide) rfl A n c (u8s (l.take n)) rfl hcut (u8s_one _) (by simp [maxLen]; omega) (by omega) ?_; intro A' c' w' hown hstep hat; have hb' := hb.step hstep (fun h => h); have hc' := hb'.cell 1; have hf' := hb'.frozen 1; simp at hc')
      · have hcn : c = n := by assumption
        rw [if_pos hcn, show c - n = 0 by omega] at hdrop
        go_ret2
        exact ref_take_end hown hstep hat hb hg hA hne hdrop (fun k hk => ⟨by have := hk.1; omega, hk.2⟩)
      · have hcn : ¬ c = n := by assumption
        rw [if_neg hcn] at hdrop
        go_ret2
        exact ref_take_end hown hstep hat hb hg hA hne hdrop (fun k hk => by
          have : Ft (if c = n then A else A.map (·.add n)) (l.length - n) k := by rw [if_neg hcn]; exact hk
          exact ft_cut this)

/-- TakeEnd with the three parts by name. -/
def TakeIs (w : World) (F : Nat → Prop) (g : Nat) (is : World → (Nat → Prop) → Nat → List UInt8 → Prop) (x : List UInt8) (n : Int) (l : List UInt8) (e : Ending) (w' : World) : Prop :=
  ∃ A m c, e = .returned (.tuple #[.slice A m c, .int .i64 n]) ∧ Sl w' A m c 1 (u8s x) ∧ (∀ k, At A k → w.heap.size ≤ k ∧ k < w'.heap.size) ∧ is w' F g l ∧ Step (fun k => k = g) w w'
theorem tape_take' {w : World} {F : Nat → Prop} {g : Nat} {l x l' : List UInt8} {k n : Int} (h : TapeIs w F g l) (hl : l.length ≤ 1000000000000) (hr : takeM l k = (x, n, l')) :
    Calls Try.prog 14 #[.pointer (some ⟨g, 0, none⟩), .int .i64 k] w (TakeIs w F g TapeIs x n l') := by
  have := tape_take h hl k
  rw [hr] at this
  exact this
theorem ref_take' {mm r y z o : Value} {w : World} {F : Nat → Prop} {g : Nat} {l x l' : List UInt8} {k n : Int} (h : RefIs mm r y z o w F g l) (hl : l.length ≤ 1000000000000) (hr : takeM l k = (x, n, l')) :
    Calls Try.prog 15 #[.pointer (some ⟨g, 0, none⟩), .int .i64 k] w (TakeIs w F g (RefIs mm r y z o) x n l') := by
  have := ref_take h hl k
  rw [hr] at this
  exact this
end Go.Proofs.Ytemhfociaikijaa
