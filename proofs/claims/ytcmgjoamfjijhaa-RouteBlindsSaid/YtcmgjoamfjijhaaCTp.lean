/- A tape as a part. -/
import Derived.Test.YtcmgjoamfjijhaaCB2
import Derived.Test.YtcmgjoamfjijhaaCTy
namespace Go.Proofs.Ytcmgjoamfjijhaa
open Go.RowKit
set_option linter.unusedVariables false
set_option linter.unusedSimpArgs false

/-- A fact as a part. -/
def eFact (p : Prop) : Ent where
  own _ := False
  rd _ := False
  holds _ := p
  isC := true
  lt _ k hk := by rcases hk with hk | hk <;> exact hk.elim
  keep h _ _ := h
  cel _ _ _ k hk := by rcases hk with hk | hk <;> exact hk.elim
/-- A tape: what is left of it; nil is one of nothing. -/
def eTp (tp : Option Nat) (A : Option Addr) (n c : Nat) (b : List UInt8) : Ent := match tp with
  | some g => eStar (eBlk g 77 [.slice A n c]) (eSl A n c 1 (u8s b))
  | none => eFact (b = [])
def tpv (tp : Option Nat) : Value := .pointer (tp.map fun g => ⟨g, 0, none⟩)
class SlotTp (L : List Ent) (tp : Option Nat) (A : outParam (Option Addr)) (n c : outParam Nat) (b : outParam (List UInt8)) (F : outParam (List Ent)) : Prop where
  perm : L.Perm (eTp tp A n c b :: F)
instance (priority := high) SlotTp.hit (tp : Option Nat) (A : Option Addr) (n c : Nat) (b : List UInt8) (L : List Ent) : SlotTp (eTp tp A n c b :: L) tp A n c b L := ⟨.refl _⟩
instance SlotTp.miss (x : Ent) (tp : Option Nat) (A : Option Addr) (n c : Nat) (b : List UInt8) (L F : List Ent) [h : SlotTp L tp A n c b F] : SlotTp (x :: L) tp A n c b (x :: F) := ⟨(h.perm.cons x).trans (.swap _ _ _)⟩
def takeM (n : Nat) (b : List UInt8) : List UInt8 × List UInt8 := if n ≤ b.length then (b.take n, b.drop n) else ([], b)
def takeE (n : Nat) (b : List UInt8) : Nat := if n ≤ b.length then 0 else 60
theorem takeM_yes {n : Nat} {b : List UInt8} (h : n ≤ b.length) : takeM n b = (b.take n, b.drop n) := if_pos h
theorem takeM_no {n : Nat} {b : List UInt8} (h : ¬ n ≤ b.length) : takeM n b = ([], b) := if_neg h
theorem takeE_yes {n : Nat} {b : List UInt8} (h : n ≤ b.length) : takeE n b = 0 := if_pos h
theorem takeE_no {n : Nat} {b : List UInt8} (h : ¬ n ≤ b.length) : takeE n b = 60 := if_neg h

section
variable {S : Nat → Prop} {w0 w : World} {L F : List Ent} {A : Option Addr} {n c : Nat} {b : List UInt8}
theorem St.tpOpen (h : St S w0 w L) (g : Nat) {A : Option Addr} {n c : Nat} {b : List UInt8} [k : SlotTp L (some g) A n c b F] : St S w0 w (eBlk g 77 [.slice A n c] :: eSl A n c 1 (u8s b) :: F) := (h.perm k.perm).unstar
theorem St.tpShut {g : Nat} (h : St S w0 w (eBlk g 77 [.slice A n c] :: eSl A n c 1 (u8s b) :: F)) : St S w0 w (eTp (some g) A n c b :: F) := h.star
theorem St.tpNil (h : St S w0 w L) [k : SlotTp L none A n c b F] : b = [] := (h.perm k.perm).holds _ List.mem_cons_self
/-- A slice that is read, narrowed. -/
theorem St.dropSl {sz : Nat} {xs : List Value} (h : St S w0 w L) [k : Slot L (eSl A n c sz xs) F] {i : Nat} (hi : i ≤ n) : St S w0 w (eSl (if c = i then A else A.map (·.add (i * sz))) (n - i) (c - i) sz (xs.drop (i * sz)) :: F) :=
  (h.perm k.perm).resay _ (let hh := (h.perm k.perm).holds _ List.mem_cons_self; ⟨hh.1, hh.2.drop hi⟩) (fun _ => Iff.rfl) (fun i hi => ft_cut hi)
end

theorem tape_new {S : Nat → Prop} {w0 w : World} {L : List Ent} {A : Option Addr} {n c : Nat} {b : List UInt8} (h : St S w0 w L) [ka : HasSl L A n c 1 (u8s b)] (hn : n ≤ 1000000000) :
    Calls Try.prog 15 #[.slice A n c] w fun e w' => ∃ g A' c', e = .returned (tpv (some g)) ∧ St S w0 w' (eTp (some g) A' n c' b :: L) := by
  go_enter Try.func15, Try.ntmps15
  go_wp2_with (first
    | (refine wl_runs rfl (ex_append_nil h _ _ _ rfl rfl A n c rfl (h.sl A n c) (u8s_one _) (by simp [maxLen]; omega) (by omega)) ?_; clear h; rintro _ w ⟨A2, c2, rfl, h⟩)
    | (refine wl_reads rfl (ex_lit _ _ rfl [(0, .slice A2 n c2)] rfl) ?_)
    | (refine wl_runs rfl (ex_box h 77 _ rfl (c_tape_Tape (.slice A2 n c2)) rfl) ?_; clear h; rintro _ w ⟨g, rfl, h⟩)
    | (refine wl_reads rfl (ex_loadv h _ _ rfl _ _ rfl) ?_) | (refine wl_runs rfl (ex_store1i h _ _ _ rfl _ _ rfl _ _ rfl) ?_; clear h; rintro _ w ⟨rfl, h⟩; try dsimp only [Act.put]) | (refine wl_runs rfl (ex_store1s h _ _ _ rfl _ _ rfl _ _ _ rfl) ?_; clear h; rintro _ w ⟨rfl, h⟩; try dsimp only [Act.put]) | (refine wl_runs rfl (ex_store1b h _ _ _ rfl _ _ rfl _ rfl) ?_; clear h; rintro _ w ⟨rfl, h⟩; try dsimp only [Act.put]) | (refine wl_runs rfl (ex_store1t h _ _ _ rfl _ _ rfl _ rfl) ?_; clear h; rintro _ w ⟨rfl, h⟩; try dsimp only [Act.put]) | (refine wl_runs rfl (ex_store1p h _ _ _ rfl _ _ rfl _ rfl) ?_; clear h; rintro _ w ⟨rfl, h⟩; try dsimp only [Act.put]) | (refine wl_runs rfl (ex_store1m h _ _ _ rfl _ _ rfl _ rfl) ?_; clear h; rintro _ w ⟨rfl, h⟩; try dsimp only [Act.put]) | (refine wl_runs rfl (ex_store h _ _ _ rfl _ _ rfl _ rfl) ?_; clear h; rintro _ w ⟨rfl, h⟩; try dsimp only [Act.put]) | (refine wl_runs rfl (ex_alloc h _ rfl) ?_; clear h; rintro _ w ⟨g, rfl, h⟩) | (refine wl_runs rfl (ex_box h _ _ rfl _ rfl) ?_; clear h; rintro _ w ⟨g, rfl, h⟩) | (refine wl_runs rfl (ex_box1i h _ _ rfl _ _ rfl) ?_; clear h; rintro _ w ⟨g, rfl, h⟩) | (refine wl_runs rfl (ex_box1s h _ _ rfl _ _ _ rfl) ?_; clear h; rintro _ w ⟨g, rfl, h⟩) | (refine wl_runs rfl (ex_box1b h _ _ rfl _ rfl) ?_; clear h; rintro _ w ⟨g, rfl, h⟩) | (refine wl_runs rfl (ex_box1t h _ _ rfl _ rfl) ?_; clear h; rintro _ w ⟨g, rfl, h⟩) | (refine wl_runs rfl (ex_box1p h _ _ rfl _ rfl) ?_; clear h; rintro _ w ⟨g, rfl, h⟩) | (refine wl_runs rfl (ex_box1m h _ _ rfl _ rfl) ?_; clear h; rintro _ w ⟨g, rfl, h⟩) | (refine wl_runs rfl (ex_slice1 h _ _ rfl _ rfl) ?_; clear h; rintro _ w ⟨g, rfl, h⟩) | (refine wl_runs rfl (ex_slice1i h _ _ rfl _ _ rfl) ?_; clear h; rintro _ w ⟨g, rfl, h⟩) | (refine wl_runs rfl (ex_slice1s h _ _ rfl _ _ _ rfl) ?_; clear h; rintro _ w ⟨g, rfl, h⟩) | (refine wl_runs rfl (ex_slice1b h _ _ rfl _ rfl) ?_; clear h; rintro _ w ⟨g, rfl, h⟩) | (refine wl_runs rfl (ex_slice1t h _ _ rfl _ rfl) ?_; clear h; rintro _ w ⟨g, rfl, h⟩) | (refine wl_runs rfl (ex_slice1p h _ _ rfl _ rfl) ?_; clear h; rintro _ w ⟨g, rfl, h⟩) | (refine wl_runs rfl (ex_slice1m h _ _ rfl _ rfl) ?_; clear h; rintro _ w ⟨g, rfl, h⟩) | (refine wl_reads rfl (ex_lit0 _ rfl) ?_))
  go_ret
  have h2 : St S w0 w (eBlk g 77 [.slice A2 n c2] :: eOwn 5 1 A2 n c2 (u8s b) :: L) := h
  exact ⟨g, A2, c2, rfl, ((h2.release A2 (by omega)).to).tpShut⟩
theorem tape_left {S : Nat → Prop} {w0 w : World} {L F : List Ent} {tp : Option Nat} {A : Option Addr} {n c : Nat} {b : List UInt8} (h : St S w0 w L) [k : SlotTp L tp A n c b F] :
    Calls Try.prog 90 #[tpv tp] w fun e w' => e = .returned (.int .i64 (b.length : Int)) ∧ w' = w := by
  cases tp with
  | none =>
    have hb := h.tpNil
    subst hb
    unfold tpv
    simp only [Option.map_none]
    go_enter Try.func90, Try.ntmps90
    go_wp2
    go_ret
    exact ⟨rfl, rfl⟩
  | some g =>
    have h := h.tpOpen g
    have hn := (h.sl A n c).n_eq
    unfold tpv
    simp only [Option.map_some]
    rw [← hn]
    clear hn
    go_enter Try.func90, Try.ntmps90
    go_wp2_with (first | (refine wl_reads rfl (ex_loadv h _ _ rfl _ _ rfl) ?_) | (refine wl_runs rfl (ex_store1i h _ _ _ rfl _ _ rfl _ _ rfl) ?_; clear h; rintro _ w ⟨rfl, h⟩; try dsimp only [Act.put]) | (refine wl_runs rfl (ex_store1s h _ _ _ rfl _ _ rfl _ _ _ rfl) ?_; clear h; rintro _ w ⟨rfl, h⟩; try dsimp only [Act.put]) | (refine wl_runs rfl (ex_store1b h _ _ _ rfl _ _ rfl _ rfl) ?_; clear h; rintro _ w ⟨rfl, h⟩; try dsimp only [Act.put]) | (refine wl_runs rfl (ex_store1t h _ _ _ rfl _ _ rfl _ rfl) ?_; clear h; rintro _ w ⟨rfl, h⟩; try dsimp only [Act.put]) | (refine wl_runs rfl (ex_store1p h _ _ _ rfl _ _ rfl _ rfl) ?_; clear h; rintro _ w ⟨rfl, h⟩; try dsimp only [Act.put]) | (refine wl_runs rfl (ex_store1m h _ _ _ rfl _ _ rfl _ rfl) ?_; clear h; rintro _ w ⟨rfl, h⟩; try dsimp only [Act.put]) | (refine wl_runs rfl (ex_store h _ _ _ rfl _ _ rfl _ rfl) ?_; clear h; rintro _ w ⟨rfl, h⟩; try dsimp only [Act.put]) | (refine wl_runs rfl (ex_alloc h _ rfl) ?_; clear h; rintro _ w ⟨g, rfl, h⟩) | (refine wl_runs rfl (ex_box h _ _ rfl _ rfl) ?_; clear h; rintro _ w ⟨g, rfl, h⟩) | (refine wl_runs rfl (ex_box1i h _ _ rfl _ _ rfl) ?_; clear h; rintro _ w ⟨g, rfl, h⟩) | (refine wl_runs rfl (ex_box1s h _ _ rfl _ _ _ rfl) ?_; clear h; rintro _ w ⟨g, rfl, h⟩) | (refine wl_runs rfl (ex_box1b h _ _ rfl _ rfl) ?_; clear h; rintro _ w ⟨g, rfl, h⟩) | (refine wl_runs rfl (ex_box1t h _ _ rfl _ rfl) ?_; clear h; rintro _ w ⟨g, rfl, h⟩) | (refine wl_runs rfl (ex_box1p h _ _ rfl _ rfl) ?_; clear h; rintro _ w ⟨g, rfl, h⟩) | (refine wl_runs rfl (ex_box1m h _ _ rfl _ rfl) ?_; clear h; rintro _ w ⟨g, rfl, h⟩) | (refine wl_runs rfl (ex_slice1 h _ _ rfl _ rfl) ?_; clear h; rintro _ w ⟨g, rfl, h⟩) | (refine wl_runs rfl (ex_slice1i h _ _ rfl _ _ rfl) ?_; clear h; rintro _ w ⟨g, rfl, h⟩) | (refine wl_runs rfl (ex_slice1s h _ _ rfl _ _ _ rfl) ?_; clear h; rintro _ w ⟨g, rfl, h⟩) | (refine wl_runs rfl (ex_slice1b h _ _ rfl _ rfl) ?_; clear h; rintro _ w ⟨g, rfl, h⟩) | (refine wl_runs rfl (ex_slice1t h _ _ rfl _ rfl) ?_; clear h; rintro _ w ⟨g, rfl, h⟩) | (refine wl_runs rfl (ex_slice1p h _ _ rfl _ rfl) ?_; clear h; rintro _ w ⟨g, rfl, h⟩) | (refine wl_runs rfl (ex_slice1m h _ _ rfl _ rfl) ?_; clear h; rintro _ w ⟨g, rfl, h⟩) | (refine wl_reads rfl (ex_lit0 _ rfl) ?_))
    go_ret
    exact ⟨rfl, rfl⟩
set_option maxRecDepth 100000 in
theorem tape_take {S : Nat → Prop} {w0 w : World} {L F : List Ent} {tp : Option Nat} {A : Option Addr} {n c : Nat} {b : List UInt8} (h : St S w0 w L) [k : SlotTp L tp A n c b F] (m : Nat) (hm : m ≤ 1000000000) :
    Calls Try.prog 57 #[tpv tp, .int .i64 (m : Int)] w fun e w' => ∃ A1 c1, e = .returned (.tuple #[.slice A1 (takeM m b).1.length c1, .int .i64 (takeE m b : Int)]) ∧ ∃ A2 n2 c2, St S w0 w' (eOwn 5 1 A1 (takeM m b).1.length c1 (u8s (takeM m b).1) :: eTp tp A2 n2 c2 (takeM m b).2 :: F) := by
  have hL := @tape_left S w0 w L F tp A n c b h k
  by_cases hle : m ≤ b.length
  · rw [takeM_yes hle, takeE_yes hle]
    have hlen : (b.take m).length = m := by rw [List.length_take]; omega
    simp only [hlen]
    have f1 : ¬ (b.length : Int) < (m : Int) := by omega
    by_cases h0 : m = 0
    · subst h0
      have f2 : (((0 : Nat) : Int) == 0) = true := rfl
      go_enter Try.func57, Try.ntmps57
      go_wp2_with (first
        | (go_at_call 90; refine hL.mono ?_; rintro e w' ⟨rfl, rfl⟩)
        | (refine wl_reads rfl (ex_loadv h _ _ rfl _ _ rfl) ?_) | (refine wl_runs rfl (ex_store1i h _ _ _ rfl _ _ rfl _ _ rfl) ?_; clear h; rintro _ w ⟨rfl, h⟩; try dsimp only [Act.put]) | (refine wl_runs rfl (ex_store1s h _ _ _ rfl _ _ rfl _ _ _ rfl) ?_; clear h; rintro _ w ⟨rfl, h⟩; try dsimp only [Act.put]) | (refine wl_runs rfl (ex_store1b h _ _ _ rfl _ _ rfl _ rfl) ?_; clear h; rintro _ w ⟨rfl, h⟩; try dsimp only [Act.put]) | (refine wl_runs rfl (ex_store1t h _ _ _ rfl _ _ rfl _ rfl) ?_; clear h; rintro _ w ⟨rfl, h⟩; try dsimp only [Act.put]) | (refine wl_runs rfl (ex_store1p h _ _ _ rfl _ _ rfl _ rfl) ?_; clear h; rintro _ w ⟨rfl, h⟩; try dsimp only [Act.put]) | (refine wl_runs rfl (ex_store1m h _ _ _ rfl _ _ rfl _ rfl) ?_; clear h; rintro _ w ⟨rfl, h⟩; try dsimp only [Act.put]) | (refine wl_runs rfl (ex_store h _ _ _ rfl _ _ rfl _ rfl) ?_; clear h; rintro _ w ⟨rfl, h⟩; try dsimp only [Act.put]) | (refine wl_runs rfl (ex_alloc h _ rfl) ?_; clear h; rintro _ w ⟨g, rfl, h⟩) | (refine wl_runs rfl (ex_box h _ _ rfl _ rfl) ?_; clear h; rintro _ w ⟨g, rfl, h⟩) | (refine wl_runs rfl (ex_box1i h _ _ rfl _ _ rfl) ?_; clear h; rintro _ w ⟨g, rfl, h⟩) | (refine wl_runs rfl (ex_box1s h _ _ rfl _ _ _ rfl) ?_; clear h; rintro _ w ⟨g, rfl, h⟩) | (refine wl_runs rfl (ex_box1b h _ _ rfl _ rfl) ?_; clear h; rintro _ w ⟨g, rfl, h⟩) | (refine wl_runs rfl (ex_box1t h _ _ rfl _ rfl) ?_; clear h; rintro _ w ⟨g, rfl, h⟩) | (refine wl_runs rfl (ex_box1p h _ _ rfl _ rfl) ?_; clear h; rintro _ w ⟨g, rfl, h⟩) | (refine wl_runs rfl (ex_box1m h _ _ rfl _ rfl) ?_; clear h; rintro _ w ⟨g, rfl, h⟩) | (refine wl_runs rfl (ex_slice1 h _ _ rfl _ rfl) ?_; clear h; rintro _ w ⟨g, rfl, h⟩) | (refine wl_runs rfl (ex_slice1i h _ _ rfl _ _ rfl) ?_; clear h; rintro _ w ⟨g, rfl, h⟩) | (refine wl_runs rfl (ex_slice1s h _ _ rfl _ _ _ rfl) ?_; clear h; rintro _ w ⟨g, rfl, h⟩) | (refine wl_runs rfl (ex_slice1b h _ _ rfl _ rfl) ?_; clear h; rintro _ w ⟨g, rfl, h⟩) | (refine wl_runs rfl (ex_slice1t h _ _ rfl _ rfl) ?_; clear h; rintro _ w ⟨g, rfl, h⟩) | (refine wl_runs rfl (ex_slice1p h _ _ rfl _ rfl) ?_; clear h; rintro _ w ⟨g, rfl, h⟩) | (refine wl_runs rfl (ex_slice1m h _ _ rfl _ rfl) ?_; clear h; rintro _ w ⟨g, rfl, h⟩) | (refine wl_reads rfl (ex_lit0 _ rfl) ?_))
      go_ret2
      exact ⟨none, 0, rfl, A, n, c, (h.perm k.perm).nilRow 5 1⟩
    · have f2 : ((m : Int) == 0) = false := by simp; omega
      cases tp with
      | none => have hb := h.tpNil; subst hb; simp at hle; omega
      | some g =>
        have h := h.tpOpen g
        have hn := (h.sl A n c).n_eq
        rw [← hn] at hle f1
        have hcap := (h.sl A n c).le
        have hcut : Sl w A m m 1 (u8s (b.take m)) := by
          rw [← u8s_take]
          simpa using (h.sl A n c).take hle (show m ≤ c by omega) (Nat.le_refl m)
        have hc6 : c ≤ 9223372036854775807 := by have := (h.sl A n c).cap; simpa [maxLen] using this
        rw [← hn] at hL
        unfold tpv
        unfold tpv at hL
        simp only [Option.map_some] at hL ⊢
        clear hn
        go_enter Try.func57, Try.ntmps57
        go_wp2_with (first
          | (go_at_call 90; refine hL.mono ?_; rintro e w' ⟨rfl, rfl⟩)
          | (refine wl_runs rfl (ex_append_nil h _ _ _ rfl rfl A m m rfl hcut (u8s_one _) (by simp [maxLen]; omega) (by omega)) ?_; clear h; rintro _ w ⟨A2, c2, rfl, h⟩)
          | (refine wl_reads rfl (ex_loadv h _ _ rfl _ _ rfl) ?_) | (refine wl_runs rfl (ex_store1i h _ _ _ rfl _ _ rfl _ _ rfl) ?_; clear h; rintro _ w ⟨rfl, h⟩; try dsimp only [Act.put]) | (refine wl_runs rfl (ex_store1s h _ _ _ rfl _ _ rfl _ _ _ rfl) ?_; clear h; rintro _ w ⟨rfl, h⟩; try dsimp only [Act.put]) | (refine wl_runs rfl (ex_store1b h _ _ _ rfl _ _ rfl _ rfl) ?_; clear h; rintro _ w ⟨rfl, h⟩; try dsimp only [Act.put]) | (refine wl_runs rfl (ex_store1t h _ _ _ rfl _ _ rfl _ rfl) ?_; clear h; rintro _ w ⟨rfl, h⟩; try dsimp only [Act.put]) | (refine wl_runs rfl (ex_store1p h _ _ _ rfl _ _ rfl _ rfl) ?_; clear h; rintro _ w ⟨rfl, h⟩; try dsimp only [Act.put]) | (refine wl_runs rfl (ex_store1m h _ _ _ rfl _ _ rfl _ rfl) ?_; clear h; rintro _ w ⟨rfl, h⟩; try dsimp only [Act.put]) | (refine wl_runs rfl (ex_store h _ _ _ rfl _ _ rfl _ rfl) ?_; clear h; rintro _ w ⟨rfl, h⟩; try dsimp only [Act.put]) | (refine wl_runs rfl (ex_alloc h _ rfl) ?_; clear h; rintro _ w ⟨g, rfl, h⟩) | (refine wl_runs rfl (ex_box h _ _ rfl _ rfl) ?_; clear h; rintro _ w ⟨g, rfl, h⟩) | (refine wl_runs rfl (ex_box1i h _ _ rfl _ _ rfl) ?_; clear h; rintro _ w ⟨g, rfl, h⟩) | (refine wl_runs rfl (ex_box1s h _ _ rfl _ _ _ rfl) ?_; clear h; rintro _ w ⟨g, rfl, h⟩) | (refine wl_runs rfl (ex_box1b h _ _ rfl _ rfl) ?_; clear h; rintro _ w ⟨g, rfl, h⟩) | (refine wl_runs rfl (ex_box1t h _ _ rfl _ rfl) ?_; clear h; rintro _ w ⟨g, rfl, h⟩) | (refine wl_runs rfl (ex_box1p h _ _ rfl _ rfl) ?_; clear h; rintro _ w ⟨g, rfl, h⟩) | (refine wl_runs rfl (ex_box1m h _ _ rfl _ rfl) ?_; clear h; rintro _ w ⟨g, rfl, h⟩) | (refine wl_runs rfl (ex_slice1 h _ _ rfl _ rfl) ?_; clear h; rintro _ w ⟨g, rfl, h⟩) | (refine wl_runs rfl (ex_slice1i h _ _ rfl _ _ rfl) ?_; clear h; rintro _ w ⟨g, rfl, h⟩) | (refine wl_runs rfl (ex_slice1s h _ _ rfl _ _ _ rfl) ?_; clear h; rintro _ w ⟨g, rfl, h⟩) | (refine wl_runs rfl (ex_slice1b h _ _ rfl _ rfl) ?_; clear h; rintro _ w ⟨g, rfl, h⟩) | (refine wl_runs rfl (ex_slice1t h _ _ rfl _ rfl) ?_; clear h; rintro _ w ⟨g, rfl, h⟩) | (refine wl_runs rfl (ex_slice1p h _ _ rfl _ rfl) ?_; clear h; rintro _ w ⟨g, rfl, h⟩) | (refine wl_runs rfl (ex_slice1m h _ _ rfl _ rfl) ?_; clear h; rintro _ w ⟨g, rfl, h⟩) | (refine wl_reads rfl (ex_lit0 _ rfl) ?_))
        all_goals
          rename_i q
          go_ret2
          refine ⟨A2, c2, rfl, (if c = m then A else A.map (·.add m)), n - m, c - m, ?_⟩
          have q2 : St S w0 w (eSl A n c 1 (u8s b) :: eBlk g 77 [.slice (if c = m then A else A.map (·.add m)) (n - m) (c - m)] :: eOwn 5 1 A2 m c2 (u8s (b.take m)) :: F) := q.to
          have q3 := q2.dropSl (k := Slot.hit _ _) (i := m) hle
          rw [Nat.mul_one, u8s_drop] at q3
          have q4 : St S w0 w (eBlk g 77 [.slice (if c = m then A else A.map (·.add m)) (n - m) (c - m)] :: eSl (if c = m then A else A.map (·.add m)) (n - m) (c - m) 1 (u8s (b.drop m)) :: eOwn 5 1 A2 m c2 (u8s (b.take m)) :: F) := q3.to
          exact (q4.tpShut).to
  · rw [takeM_no hle, takeE_no hle]
    have f1 : (b.length : Int) < (m : Int) := by omega
    go_enter Try.func57, Try.ntmps57
    go_wp2_with (first
      | (go_at_call 90; refine hL.mono ?_; rintro e w' ⟨rfl, rfl⟩)
      | (refine wl_reads rfl (ex_loadv h _ _ rfl _ _ rfl) ?_) | (refine wl_runs rfl (ex_store1i h _ _ _ rfl _ _ rfl _ _ rfl) ?_; clear h; rintro _ w ⟨rfl, h⟩; try dsimp only [Act.put]) | (refine wl_runs rfl (ex_store1s h _ _ _ rfl _ _ rfl _ _ _ rfl) ?_; clear h; rintro _ w ⟨rfl, h⟩; try dsimp only [Act.put]) | (refine wl_runs rfl (ex_store1b h _ _ _ rfl _ _ rfl _ rfl) ?_; clear h; rintro _ w ⟨rfl, h⟩; try dsimp only [Act.put]) | (refine wl_runs rfl (ex_store1t h _ _ _ rfl _ _ rfl _ rfl) ?_; clear h; rintro _ w ⟨rfl, h⟩; try dsimp only [Act.put]) | (refine wl_runs rfl (ex_store1p h _ _ _ rfl _ _ rfl _ rfl) ?_; clear h; rintro _ w ⟨rfl, h⟩; try dsimp only [Act.put]) | (refine wl_runs rfl (ex_store1m h _ _ _ rfl _ _ rfl _ rfl) ?_; clear h; rintro _ w ⟨rfl, h⟩; try dsimp only [Act.put]) | (refine wl_runs rfl (ex_store h _ _ _ rfl _ _ rfl _ rfl) ?_; clear h; rintro _ w ⟨rfl, h⟩; try dsimp only [Act.put]) | (refine wl_runs rfl (ex_alloc h _ rfl) ?_; clear h; rintro _ w ⟨g, rfl, h⟩) | (refine wl_runs rfl (ex_box h _ _ rfl _ rfl) ?_; clear h; rintro _ w ⟨g, rfl, h⟩) | (refine wl_runs rfl (ex_box1i h _ _ rfl _ _ rfl) ?_; clear h; rintro _ w ⟨g, rfl, h⟩) | (refine wl_runs rfl (ex_box1s h _ _ rfl _ _ _ rfl) ?_; clear h; rintro _ w ⟨g, rfl, h⟩) | (refine wl_runs rfl (ex_box1b h _ _ rfl _ rfl) ?_; clear h; rintro _ w ⟨g, rfl, h⟩) | (refine wl_runs rfl (ex_box1t h _ _ rfl _ rfl) ?_; clear h; rintro _ w ⟨g, rfl, h⟩) | (refine wl_runs rfl (ex_box1p h _ _ rfl _ rfl) ?_; clear h; rintro _ w ⟨g, rfl, h⟩) | (refine wl_runs rfl (ex_box1m h _ _ rfl _ rfl) ?_; clear h; rintro _ w ⟨g, rfl, h⟩) | (refine wl_runs rfl (ex_slice1 h _ _ rfl _ rfl) ?_; clear h; rintro _ w ⟨g, rfl, h⟩) | (refine wl_runs rfl (ex_slice1i h _ _ rfl _ _ rfl) ?_; clear h; rintro _ w ⟨g, rfl, h⟩) | (refine wl_runs rfl (ex_slice1s h _ _ rfl _ _ _ rfl) ?_; clear h; rintro _ w ⟨g, rfl, h⟩) | (refine wl_runs rfl (ex_slice1b h _ _ rfl _ rfl) ?_; clear h; rintro _ w ⟨g, rfl, h⟩) | (refine wl_runs rfl (ex_slice1t h _ _ rfl _ rfl) ?_; clear h; rintro _ w ⟨g, rfl, h⟩) | (refine wl_runs rfl (ex_slice1p h _ _ rfl _ rfl) ?_; clear h; rintro _ w ⟨g, rfl, h⟩) | (refine wl_runs rfl (ex_slice1m h _ _ rfl _ rfl) ?_; clear h; rintro _ w ⟨g, rfl, h⟩) | (refine wl_reads rfl (ex_lit0 _ rfl) ?_))
    go_ret2
    exact ⟨none, 0, rfl, A, n, c, (h.perm k.perm).nilRow 5 1⟩
/-- A key drawn: noughts if there is none. -/
def keyT (b : List UInt8) : List UInt8 := if 32 ≤ b.length then b.take 32 else zeros 32
theorem keyT_length (b : List UInt8) : (keyT b).length = 32 := by
  unfold keyT
  split
  · rw [List.length_take]; omega
  · simp [zeros]
set_option maxRecDepth 100000 in
theorem tape_key {S : Nat → Prop} {w0 w : World} {L F : List Ent} {tp : Option Nat} {A : Option Addr} {n c : Nat} {b : List UInt8} (h : St S w0 w L) [k : SlotTp L tp A n c b F] :
    Calls Try.prog 47 #[tpv tp] w fun e w' => e = .returned (.tuple #[.agg (u8s (keyT b)).toArray, .int .i64 (takeE 32 b : Int)]) ∧ ∃ A2 n2 c2, St S w0 w' (eTp tp A2 n2 c2 (takeM 32 b).2 :: F) := by
  by_cases hle : 32 ≤ b.length
  · have hk : keyT b = b.take 32 := if_pos hle
    have hkl : (b.take 32).length = 32 := by rw [List.length_take]; omega
    have hr : Row (u8s (b.take 32)) 32 := Row.mk' (by rw [u8s_length, hkl]) (u8s_one _) (by omega)
    rw [hk, takeM_yes hle, takeE_yes hle]
    have hat : ∀ (b0 off c : Nat) W', (Instr.arrayAt 29 (.slice (some ⟨b0, off, none⟩) 32 c)).run Try.prog W' = .ok (.pointer (some ⟨b0, off, none⟩)) W' := fun b0 off c W' => run_arrayAt _ _ _ 32 _ _ _ Try.underlying29 (Nat.le_refl _)
    go_enter Try.func47, Try.ntmps47
    go_wp2_with (first
      | (refine wl_runs rfl (ex_alloc h 29 rfl) ?_; clear h; rintro _ w ⟨gr, rfl, h⟩)
      | (go_at_call 57; refine (tape_take (tp := tp) h 32 (by omega)).mono ?_; rw [takeM_yes hle, takeE_yes hle]; simp only [hkl]; clear h; rintro e w ⟨A1, c1, rfl, A2, n2, c2, h⟩; obtain ⟨b0, off, rfl, hbl, hcs⟩ := (h.sl A1 32 c1).pos (by omega))
      | (refine wl_reads rfl (ex_load_at _ _ rfl b0 off rfl (u8s (b.take 32)) (by rw [u8s_length, hkl]) hcs) ?_)
      | (refine wl_reads rfl (ex_loadv h _ _ rfl _ _ rfl) ?_) | (refine wl_runs rfl (ex_store1i h _ _ _ rfl _ _ rfl _ _ rfl) ?_; clear h; rintro _ w ⟨rfl, h⟩; try dsimp only [Act.put]) | (refine wl_runs rfl (ex_store1s h _ _ _ rfl _ _ rfl _ _ _ rfl) ?_; clear h; rintro _ w ⟨rfl, h⟩; try dsimp only [Act.put]) | (refine wl_runs rfl (ex_store1b h _ _ _ rfl _ _ rfl _ rfl) ?_; clear h; rintro _ w ⟨rfl, h⟩; try dsimp only [Act.put]) | (refine wl_runs rfl (ex_store1t h _ _ _ rfl _ _ rfl _ rfl) ?_; clear h; rintro _ w ⟨rfl, h⟩; try dsimp only [Act.put]) | (refine wl_runs rfl (ex_store1p h _ _ _ rfl _ _ rfl _ rfl) ?_; clear h; rintro _ w ⟨rfl, h⟩; try dsimp only [Act.put]) | (refine wl_runs rfl (ex_store1m h _ _ _ rfl _ _ rfl _ rfl) ?_; clear h; rintro _ w ⟨rfl, h⟩; try dsimp only [Act.put]) | (refine wl_runs rfl (ex_store h _ _ _ rfl _ _ rfl _ rfl) ?_; clear h; rintro _ w ⟨rfl, h⟩; try dsimp only [Act.put]) | (refine wl_runs rfl (ex_alloc h _ rfl) ?_; clear h; rintro _ w ⟨g, rfl, h⟩) | (refine wl_runs rfl (ex_box h _ _ rfl _ rfl) ?_; clear h; rintro _ w ⟨g, rfl, h⟩) | (refine wl_runs rfl (ex_box1i h _ _ rfl _ _ rfl) ?_; clear h; rintro _ w ⟨g, rfl, h⟩) | (refine wl_runs rfl (ex_box1s h _ _ rfl _ _ _ rfl) ?_; clear h; rintro _ w ⟨g, rfl, h⟩) | (refine wl_runs rfl (ex_box1b h _ _ rfl _ rfl) ?_; clear h; rintro _ w ⟨g, rfl, h⟩) | (refine wl_runs rfl (ex_box1t h _ _ rfl _ rfl) ?_; clear h; rintro _ w ⟨g, rfl, h⟩) | (refine wl_runs rfl (ex_box1p h _ _ rfl _ rfl) ?_; clear h; rintro _ w ⟨g, rfl, h⟩) | (refine wl_runs rfl (ex_box1m h _ _ rfl _ rfl) ?_; clear h; rintro _ w ⟨g, rfl, h⟩) | (refine wl_runs rfl (ex_slice1 h _ _ rfl _ rfl) ?_; clear h; rintro _ w ⟨g, rfl, h⟩) | (refine wl_runs rfl (ex_slice1i h _ _ rfl _ _ rfl) ?_; clear h; rintro _ w ⟨g, rfl, h⟩) | (refine wl_runs rfl (ex_slice1s h _ _ rfl _ _ _ rfl) ?_; clear h; rintro _ w ⟨g, rfl, h⟩) | (refine wl_runs rfl (ex_slice1b h _ _ rfl _ rfl) ?_; clear h; rintro _ w ⟨g, rfl, h⟩) | (refine wl_runs rfl (ex_slice1t h _ _ rfl _ rfl) ?_; clear h; rintro _ w ⟨g, rfl, h⟩) | (refine wl_runs rfl (ex_slice1p h _ _ rfl _ rfl) ?_; clear h; rintro _ w ⟨g, rfl, h⟩) | (refine wl_runs rfl (ex_slice1m h _ _ rfl _ rfl) ?_; clear h; rintro _ w ⟨g, rfl, h⟩) | (refine wl_reads rfl (ex_lit0 _ rfl) ?_))
    refine bodyPost_ret (res_cell_tmp rfl rfl rfl (h.loadVar 29 gr 0)) rfl ?_
    exact ⟨rfl, A2, n2, c2, h.to⟩
  · have hk : keyT b = zeros 32 := if_neg hle
    rw [hk, takeM_no hle, takeE_no hle]
    go_enter Try.func47, Try.ntmps47
    go_wp2_with (first
      | (refine wl_runs rfl (ex_alloc h 29 rfl) ?_; clear h; rintro _ w ⟨gr, rfl, h⟩)
      | (go_at_call 57; refine (tape_take (tp := tp) h 32 (by omega)).mono ?_; rw [takeM_no hle, takeE_no hle]; clear h; rintro e w ⟨A1, c1, rfl, A2, n2, c2, h⟩)
      | (refine wl_reads rfl (ex_loadv h _ _ rfl _ _ rfl) ?_) | (refine wl_runs rfl (ex_store1i h _ _ _ rfl _ _ rfl _ _ rfl) ?_; clear h; rintro _ w ⟨rfl, h⟩; try dsimp only [Act.put]) | (refine wl_runs rfl (ex_store1s h _ _ _ rfl _ _ rfl _ _ _ rfl) ?_; clear h; rintro _ w ⟨rfl, h⟩; try dsimp only [Act.put]) | (refine wl_runs rfl (ex_store1b h _ _ _ rfl _ _ rfl _ rfl) ?_; clear h; rintro _ w ⟨rfl, h⟩; try dsimp only [Act.put]) | (refine wl_runs rfl (ex_store1t h _ _ _ rfl _ _ rfl _ rfl) ?_; clear h; rintro _ w ⟨rfl, h⟩; try dsimp only [Act.put]) | (refine wl_runs rfl (ex_store1p h _ _ _ rfl _ _ rfl _ rfl) ?_; clear h; rintro _ w ⟨rfl, h⟩; try dsimp only [Act.put]) | (refine wl_runs rfl (ex_store1m h _ _ _ rfl _ _ rfl _ rfl) ?_; clear h; rintro _ w ⟨rfl, h⟩; try dsimp only [Act.put]) | (refine wl_runs rfl (ex_store h _ _ _ rfl _ _ rfl _ rfl) ?_; clear h; rintro _ w ⟨rfl, h⟩; try dsimp only [Act.put]) | (refine wl_runs rfl (ex_alloc h _ rfl) ?_; clear h; rintro _ w ⟨g, rfl, h⟩) | (refine wl_runs rfl (ex_box h _ _ rfl _ rfl) ?_; clear h; rintro _ w ⟨g, rfl, h⟩) | (refine wl_runs rfl (ex_box1i h _ _ rfl _ _ rfl) ?_; clear h; rintro _ w ⟨g, rfl, h⟩) | (refine wl_runs rfl (ex_box1s h _ _ rfl _ _ _ rfl) ?_; clear h; rintro _ w ⟨g, rfl, h⟩) | (refine wl_runs rfl (ex_box1b h _ _ rfl _ rfl) ?_; clear h; rintro _ w ⟨g, rfl, h⟩) | (refine wl_runs rfl (ex_box1t h _ _ rfl _ rfl) ?_; clear h; rintro _ w ⟨g, rfl, h⟩) | (refine wl_runs rfl (ex_box1p h _ _ rfl _ rfl) ?_; clear h; rintro _ w ⟨g, rfl, h⟩) | (refine wl_runs rfl (ex_box1m h _ _ rfl _ rfl) ?_; clear h; rintro _ w ⟨g, rfl, h⟩) | (refine wl_runs rfl (ex_slice1 h _ _ rfl _ rfl) ?_; clear h; rintro _ w ⟨g, rfl, h⟩) | (refine wl_runs rfl (ex_slice1i h _ _ rfl _ _ rfl) ?_; clear h; rintro _ w ⟨g, rfl, h⟩) | (refine wl_runs rfl (ex_slice1s h _ _ rfl _ _ _ rfl) ?_; clear h; rintro _ w ⟨g, rfl, h⟩) | (refine wl_runs rfl (ex_slice1b h _ _ rfl _ rfl) ?_; clear h; rintro _ w ⟨g, rfl, h⟩) | (refine wl_runs rfl (ex_slice1t h _ _ rfl _ rfl) ?_; clear h; rintro _ w ⟨g, rfl, h⟩) | (refine wl_runs rfl (ex_slice1p h _ _ rfl _ rfl) ?_; clear h; rintro _ w ⟨g, rfl, h⟩) | (refine wl_runs rfl (ex_slice1m h _ _ rfl _ rfl) ?_; clear h; rintro _ w ⟨g, rfl, h⟩) | (refine wl_reads rfl (ex_lit0 _ rfl) ?_))
    refine bodyPost_ret (res_cell_tmp rfl rfl rfl (h.loadVar 29 gr 0)) rfl ?_
    exact ⟨rfl, A2, n2, c2, h.to⟩
end Go.Proofs.Ytcmgjoamfjijhaa
