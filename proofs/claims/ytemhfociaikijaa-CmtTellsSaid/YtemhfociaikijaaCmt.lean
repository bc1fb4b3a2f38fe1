/- Commits in memory; which are alike. -/
import Derived.Test.YtemhfociaikijaaIds
import Derived.Test.YtemhfociaikijaaRound
import Derived.Deep.RegionHeld
namespace Go.Proofs.Ytemhfociaikijaa
open Go.RowKit

/-- A commit. -/
structure Cmt where
  pa : List Id
  root : Id
  key : Id
  seq : Int
  author : Int
  text : List UInt8
  deriving DecidableEq

/-- The cells of a commit whose list of parents lies at A. -/
def cmtc (A : Option Addr) (n c : Nat) (m : Cmt) : List Value := .slice A n c :: (idc m.root ++ idc m.key ++ [.int .u64 m.seq, .int .u32 m.author, .string (str m.text)])
theorem cmtc_length (A : Option Addr) (n c : Nat) (m : Cmt) : (cmtc A n c m).length = 68 := by simp [cmtc, idc_length]
theorem cmtc_one (A : Option Addr) (n c : Nat) (m : Cmt) : ∀ u ∈ cmtc A n c m, u.oneCell' = true := by
  intro u hu
  simp only [cmtc, List.mem_cons, List.mem_append, List.not_mem_nil, or_false] at hu
  rcases hu with rfl | (h | h) | rfl | rfl | rfl
  · rfl
  · exact idc_one _ u h
  · exact idc_one _ u h
  · rfl
  · rfl
  · rfl

theorem key_size' : (Try.prog.info? 41).map (·.size) = some 32 := by kernel_rfl
theorem cmt_size : (Try.prog.info? 50).map (·.size) = some 68 := by kernel_rfl

/-- The fields of a commit that stands at place off of block g. -/
theorem cmt_fields {w : World} {g off : Nat} {A : Option Addr} {n c : Nat} {m : Cmt} (h : Cells w g off (cmtc A n c m)) :
    w.cell? ⟨g, off, none⟩ = some (.slice A n c) ∧ Cells w g (off + 1) (idc m.root) ∧ Cells w g (off + 33) (idc m.key) ∧
    w.cell? ⟨g, off + 65, none⟩ = some (.int .u64 m.seq) ∧ w.cell? ⟨g, off + 66, none⟩ = some (.int .u32 m.author) ∧ w.cell? ⟨g, off + 67, none⟩ = some (.string (str m.text)) := by
  have hr := idc_length m.root
  have hk := idc_length m.key
  refine ⟨by simpa using h 0 _ (by simp [cmtc]), fun i u hu => ?_, fun i u hu => ?_, h 65 _ ?_, h 66 _ ?_, h 67 _ ?_⟩
  · have hi : i < 32 := by rw [← hr]; exact (List.getElem?_eq_some_iff.1 hu).1
    rw [show off + 1 + i = off + (i + 1) by omega]
    refine h (i + 1) u ?_
    simp only [cmtc, List.getElem?_cons_succ]
    rw [List.append_assoc, List.getElem?_append_left (by omega)]
    exact hu
  · have hi : i < 32 := by rw [← hk]; exact (List.getElem?_eq_some_iff.1 hu).1
    rw [show off + 33 + i = off + (i + 33) by omega]
    refine h (i + 33) u ?_
    rw [cmtc, show i + 33 = (i + 32) + 1 by omega, List.getElem?_cons_succ, List.getElem?_append_left (by simp [hr, hk]; omega), List.getElem?_append_right (by omega), hr]
    simpa using hu
  · simp [cmtc, hr, hk]
  · simp [cmtc, hr, hk]
  · simp [cmtc, hr, hk]

def cmt0 : Cmt := ⟨[], idz, idz, 0, 0, []⟩
theorem cmt_zero : (Try.prog.info? 50).map (·.zero) = some (some (.agg (cmtc none 0 0 cmt0).toArray)) := by kernel_rfl

theorem op_alloc {P : Program} {w : World} {o : Oper} {ρ : Operand → Value} (ty : TypeId) (ho : o.op = .alloc ty) (z : Value) (hz : (P.info? ty).map (·.zero) = some (some z)) :
    (execOp ρ o).run P w = .ok (.value (.pointer (some ⟨w.heap.size, 0, none⟩))) (w.alloc (.cells z.cells ty)) := by
  unfold execOp
  simp only [ho, Sem.run_bind, Sem.run_pure, Result.andThen_ok, run_alloc_var hz]

theorem run_equalIn_id {P : Program} {t e : TypeId} {i : TypeInfo} (ht : P.underlying t = some (.array 32 e)) (he : P.underlying e = some (.int .u8)) (hi : P.info? e = some i) (hs : i.size = 1) (x y : Id) (W : World) :
    (Op.equalIn 10000 t (.agg (idc x).toArray) (.agg (idc y).toArray)).run P W = .ok (decide (x = y)) W := by
  rw [show decide (x = y) = (x.1 == y.1) by rw [Bool.eq_iff_iff]; simp [Subtype.ext_iff]]
  exact run_equalIn_bytes (P := P) W 9998 t e 32 ht he (fun w => by simp [sizeOf, typeInfo, hi, hs]) x.1 y.1 x.2 y.2

/-- An operation of a region that draws, run. -/
theorem wpOp_skip {P : Program} {ops : Array Oper} {Q : Exit → Act → World → Prop} {i : Nat} {o : Oper} {K : Act → World → Prop} {a : Act} {w w' : World} (ho : ops[i]? = some o) (hgd : Region.wanted o (yielded ops a.tmps) = true)
    (hrun : (execOp a.eval o).run P w = .ok .skip w') (hk : K (a.put o.dst undef) w') : wpOp P ops Q i K a w := by
  unfold wpOp
  simp only [ho, hgd, if_true]
  refine .inl ?_
  unfold Oper.wp
  rw [hrun]
  exact hk
theorem wpOp_value {P : Program} {ops : Array Oper} {Q : Exit → Act → World → Prop} {i : Nat} {o : Oper} {K : Act → World → Prop} {a : Act} {w w' : World} {v : Value} (ho : ops[i]? = some o) (hgd : Region.wanted o (yielded ops a.tmps) = true)
    (hrun : (execOp a.eval o).run P w = .ok (.value v) w') (hk : K (a.put o.dst v) w') : wpOp P ops Q i K a w := by
  unfold wpOp
  simp only [ho, hgd, if_true]
  refine .inl ?_
  unfold Oper.wp
  rw [hrun]
  exact hk

theorem wpOp_store {P : Program} {ops : Array Oper} {Q : Exit → Act → World → Prop} {i : Nat} {o : Oper} {K : Act → World → Prop} {a : Act} {w : World} (ho : ops[i]? = some o) (hgd : Region.wanted o (yielded ops a.tmps) = true) (ty : TypeId) (x y : Operand) (hop : o.op = .store ty x y)
    (g : Nat) (hx : a.eval x = .pointer (some ⟨g, 0, none⟩)) (xs : List Value) (hy : a.eval y = .agg xs.toArray) (hi : (P.info? ty).map (·.size) = some xs.length) (h1 : ∀ u ∈ xs, u.oneCell' = true) (t : TypeId) (cs : Array Value) (hb : Blk w g t cs) (hsz : cs.size = xs.length)
    (hk : ∀ w', Blk w' g t xs.toArray → Step (fun k => k = g) w w' → K (a.put o.dst undef) w') : wpOp P ops Q i K a w := by
  obtain ⟨w', hrun, hb', hs', _⟩ := op_store (P := P) w ty x y hop g 0 hx (.agg xs.toArray) xs hy rfl hi h1 t cs hb (by omega)
  refine wpOp_skip ho hgd hrun (hk w' ?_ hs')
  rwa [List.take_zero, List.nil_append, List.drop_eq_nil_of_le (by simp; omega), List.append_nil] at hb'

/-- What stands behind 'x, y := a, b': two new variables. -/
def CopiesR (w : World) (cx cy : List Value) (a : Act) (e : Exit) (a' : Act) (w' : World) : Prop :=
  e = .normal ∧ ∃ b5 b6, a' = { tmps := [(8, .agg cx.toArray), (9, .agg cy.toArray), (5, .pointer (some ⟨b5, 0, none⟩)), (6, .pointer (some ⟨b6, 0, none⟩))].foldl (fun (t : Array Value) (p : Nat × Value) => t.setIfInBounds p.1 p.2) a.tmps, defers := a.defers } ∧
    Blk w' b5 50 cx.toArray ∧ Blk w' b6 50 cy.toArray ∧ b5 ≠ b6 ∧ w.heap.size ≤ b5 ∧ w.heap.size ≤ b6 ∧ Step (fun _ => False) w w'
theorem wp_mid {P : Program} {c : Code} {a : Act} {w : World} {Q : Exit → Act → World → Prop} (R : Act → Exit → Act → World → Prop) (h1 : c.wp P (R a) a w) (h2 : ∀ e a' w', R a e a' w' → Q e a' w') : c.wp P Q a w := Code.wp_mono h2 h1

set_option maxRecDepth 100000 in
set_option maxHeartbeats 9000000 in
theorem cmt_same {w : World} {A B : Option Addr} {n c m d : Nat} {x y : Cmt} (h : Sl w A n c 32 (x.pa.flatMap idc)) (h' : Sl w B m d 32 (y.pa.flatMap idc)) (hb : x.pa.length ≤ 1000000000) :
    Calls Try.prog 21 #[.agg (cmtc A n c x).toArray, .agg (cmtc B m d y).toArray] w fun e w' => e = .returned (.bool (decide (x = y))) ∧ Step (fun _ => False) w w' := by
  go_enter Try.func21, Try.ntmps21
  go_wp2_with (first
    | (refine wl_box rfl 50 (.tmp 0) rfl (.agg (cmtc A n c x).toArray) rfl ?_; intro w1 hb1 hS1 hw; clear hw)
    | (refine wl_box rfl 50 (.tmp 1) rfl (.agg (cmtc B m d y).toArray) rfl ?_; intro w2 hb2 hS2 hw; clear hw))
  have hc1 : Cells w2 w.heap.size 0 (cmtc A n c x) := (hb1.step hS2 id).cells
  have hc2 : Cells w2 w1.heap.size 0 (cmtc B m d y) := hb2.cells
  refine wp_mid (CopiesR w2 (cmtc A n c x) (cmtc B m d y)) ?_ ?_
  · refine wp_region_held_drew (S := fun w' => Cells w' w.heap.size 0 (cmtc A n c x) ∧ Cells w' w1.heap.size 0 (cmtc B m d y)) (by kernel_rfl) ⟨hc1, hc2⟩ fun hS => ?_
    refine wpAnyH_take (i := 0) (fuel := 5) rfl (by kernel_rfl) (by kernel_rfl) (by kernel_rfl) (fun _ _ _ h => by cases h.1) (yieldsIf_load_mid rfl 50 _ rfl w.heap.size 0 rfl (cmtc A n c x) _ (fun w' h => h.1) Try.underlying50 rfl (by rw [cmt_size, cmtc_length])) hS ?_
    refine wpAnyH_take (i := 1) (fuel := 4) rfl (by kernel_rfl) (by kernel_rfl) (by kernel_rfl) (fun _ _ _ h => by cases h.1) (yieldsIf_load_mid rfl 50 _ rfl w1.heap.size 0 rfl (cmtc B m d y) _ (fun w' h => h.2) Try.underlying50 rfl (by rw [cmt_size, cmtc_length])) hS ?_
    refine wpAnyH_all (rs := [2, 3]) (fuel := 3) (by kernel_rfl) (by simp) ?_
    intro i hi
    have h68 : ∀ (A : Option Addr) (n c : Nat) (m : Cmt), (cmtc A n c m).toArray.size = 68 := fun A n c m => by simp [cmtc_length]
    rcases List.mem_cons.1 hi with rfl | hi
    · refine wpOp_value rfl rfl (op_alloc 50 rfl _ cmt_zero) ?_
      obtain ⟨w3, hw3⟩ : ∃ w3, w2.drew.alloc (.cells (Value.agg (cmtc none 0 0 cmt0).toArray).cells 50) = w3 := ⟨_, rfl⟩
      have hb3 : Blk w3 w2.heap.size 50 (cmtc none 0 0 cmt0).toArray := by subst hw3; exact Blk.new w2.drew _ _
      have hS3 : Step (fun _ => False) w2 w3 := by subst hw3; exact ((Step.refl _ _).drew).alloc _
      have hz3 : w3.heap.size = w2.heap.size + 1 := by subst hw3; simp
      rw [hw3]
      refine ⟨⟨hc1.step hS3 id, hc2.step hS3 id⟩, ?_⟩
      refine wpAnyH_all (rs := [3]) (fuel := 2) (by kernel_rfl) (by simp) ?_
      intro i hi
      obtain rfl : i = 3 := by simpa using hi
      refine wpOp_value rfl rfl (op_alloc 50 rfl _ cmt_zero) ?_
      obtain ⟨w4, hw4⟩ : ∃ w4, w3.alloc (.cells (Value.agg (cmtc none 0 0 cmt0).toArray).cells 50) = w4 := ⟨_, rfl⟩
      have hb4 : Blk w4 w3.heap.size 50 (cmtc none 0 0 cmt0).toArray := by subst hw4; exact Blk.new w3 _ _
      have hS4 : Step (fun _ => False) w3 w4 := by subst hw4; exact (Step.refl _ _).alloc _
      rw [hw4]
      refine ⟨⟨(hc1.step hS3 id).step hS4 id, (hc2.step hS3 id).step hS4 id⟩, ?_⟩
      refine wpAnyH_all (rs := [4]) (fuel := 1) (by kernel_rfl) (by simp) ?_
      intro i hi
      obtain rfl : i = 4 := by simpa using hi
      refine wpOp_store rfl rfl 50 (.tmp 5) (.tmp 8) rfl w2.heap.size rfl (cmtc A n c x) rfl (by rw [cmt_size, cmtc_length]) (cmtc_one _ _ _ _) 50 _ (hb3.step hS4 id) (by rw [h68, cmtc_length]) ?_
      intro w5 hb5 hS5
      have hwb : w.heap.size < w2.heap.size := by have := hb1.lt; have := hS2.size; omega
      have hw1b : w1.heap.size < w2.heap.size := hb2.lt
      refine ⟨⟨((hc1.step hS3 id).step hS4 id).step hS5 (by omega), ((hc2.step hS3 id).step hS4 id).step hS5 (by omega)⟩, ?_⟩
      refine wpAnyH_all (rs := [5]) (fuel := 0) (by kernel_rfl) (by simp) ?_
      intro i hi
      obtain rfl : i = 5 := by simpa using hi
      refine wpOp_store rfl rfl 50 (.tmp 6) (.tmp 9) rfl w3.heap.size rfl (cmtc B m d y) rfl (by rw [cmt_size, cmtc_length]) (cmtc_one _ _ _ _) 50 _ (hb4.step hS5 (by omega)) (by rw [h68, cmtc_length]) ?_
      intro w6 hb6 hS6
      have hs2 := hS2.size
      refine ⟨⟨(((hc1.step hS3 id).step hS4 id).step hS5 (by omega)).step hS6 (by omega), (((hc2.step hS3 id).step hS4 id).step hS5 (by omega)).step hS6 (by omega)⟩, wpAnyH_done (by kernel_rfl) ?_ 0⟩
      have hx6 : Blk w6 w2.heap.size 50 (cmtc A n c x).toArray := hb5.step hS6 (by omega)
      have hS26 : Step (fun _ => False) w2 w6 := (((hS3.tr hS4).trans hS5 (fun i hi e => by omega)).trans hS6 (fun i hi e => by omega))
      have hp1 : Cells w6 w.heap.size 0 (cmtc A n c x) := hc1.step hS26 id
      have hp2 : Cells w6 w1.heap.size 0 (cmtc B m d y) := hc2.step hS26 id
      have hne : w2.heap.size ≠ w3.heap.size := by omega
      exact ⟨rfl, w2.heap.size, w3.heap.size, rfl, hx6, hb6, hne, Nat.le_refl _, by omega, hS26⟩
    · obtain rfl : i = 3 := by simpa using hi
      refine wpOp_value rfl rfl (op_alloc 50 rfl _ cmt_zero) ?_
      obtain ⟨w3, hw3⟩ : ∃ w3, w2.drew.alloc (.cells (Value.agg (cmtc none 0 0 cmt0).toArray).cells 50) = w3 := ⟨_, rfl⟩
      have hb3 : Blk w3 w2.heap.size 50 (cmtc none 0 0 cmt0).toArray := by subst hw3; exact Blk.new w2.drew _ _
      have hS3 : Step (fun _ => False) w2 w3 := by subst hw3; exact ((Step.refl _ _).drew).alloc _
      have hz3 : w3.heap.size = w2.heap.size + 1 := by subst hw3; simp
      rw [hw3]
      refine ⟨⟨hc1.step hS3 id, hc2.step hS3 id⟩, ?_⟩
      refine wpAnyH_all (rs := [2]) (fuel := 2) (by kernel_rfl) (by simp) ?_
      intro i hi
      obtain rfl : i = 2 := by simpa using hi
      refine wpOp_value rfl rfl (op_alloc 50 rfl _ cmt_zero) ?_
      obtain ⟨w4, hw4⟩ : ∃ w4, w3.alloc (.cells (Value.agg (cmtc none 0 0 cmt0).toArray).cells 50) = w4 := ⟨_, rfl⟩
      have hb4 : Blk w4 w3.heap.size 50 (cmtc none 0 0 cmt0).toArray := by subst hw4; exact Blk.new w3 _ _
      have hS4 : Step (fun _ => False) w3 w4 := by subst hw4; exact (Step.refl _ _).alloc _
      rw [hw4]
      refine ⟨⟨(hc1.step hS3 id).step hS4 id, (hc2.step hS3 id).step hS4 id⟩, ?_⟩
      refine wpAnyH_all (rs := [4]) (fuel := 1) (by kernel_rfl) (by simp) ?_
      intro i hi
      obtain rfl : i = 4 := by simpa using hi
      refine wpOp_store rfl rfl 50 (.tmp 5) (.tmp 8) rfl w3.heap.size rfl (cmtc A n c x) rfl (by rw [cmt_size, cmtc_length]) (cmtc_one _ _ _ _) 50 _ hb4 (by rw [h68, cmtc_length]) ?_
      intro w5 hb5 hS5
      have hwb : w.heap.size < w2.heap.size := by have := hb1.lt; have := hS2.size; omega
      have hw1b : w1.heap.size < w2.heap.size := hb2.lt
      refine ⟨⟨((hc1.step hS3 id).step hS4 id).step hS5 (by omega), ((hc2.step hS3 id).step hS4 id).step hS5 (by omega)⟩, ?_⟩
      refine wpAnyH_all (rs := [5]) (fuel := 0) (by kernel_rfl) (by simp) ?_
      intro i hi
      obtain rfl : i = 5 := by simpa using hi
      refine wpOp_store rfl rfl 50 (.tmp 6) (.tmp 9) rfl w2.heap.size rfl (cmtc B m d y) rfl (by rw [cmt_size, cmtc_length]) (cmtc_one _ _ _ _) 50 _ ((hb3.step hS4 id).step hS5 (by omega)) (by rw [h68, cmtc_length]) ?_
      intro w6 hb6 hS6
      have hs2 := hS2.size
      refine ⟨⟨(((hc1.step hS3 id).step hS4 id).step hS5 (by omega)).step hS6 (by omega), (((hc2.step hS3 id).step hS4 id).step hS5 (by omega)).step hS6 (by omega)⟩, wpAnyH_done (by kernel_rfl) ?_ 0⟩
      have hx6 : Blk w6 w3.heap.size 50 (cmtc A n c x).toArray := hb5.step hS6 (by omega)
      have hS26 : Step (fun _ => False) w2 w6 := (((hS3.tr hS4).trans hS5 (fun i hi e => by omega)).trans hS6 (fun i hi e => by omega))
      have hp1 : Cells w6 w.heap.size 0 (cmtc A n c x) := hc1.step hS26 id
      have hp2 : Cells w6 w1.heap.size 0 (cmtc B m d y) := hc2.step hS26 id
      have hne : w3.heap.size ≠ w2.heap.size := by omega
      exact ⟨rfl, w3.heap.size, w2.heap.size, rfl, hx6, hb6, hne, by omega, Nat.le_refl _, hS26⟩
  · rintro e a' w6 ⟨rfl, b5, b6, rfl, hx6, hb6, hne, h5, h6, hS26⟩
    simp only [List.foldl_cons, List.foldl_nil, List.setIfInBounds_toArray, List.set_cons_succ, List.set_cons_zero]
    obtain ⟨i0, hi, _, hz1, _⟩ := info_parts byte_info
    have hqr := fun W => run_equalIn_id (P := Try.prog) (t := 46) Try.underlying46 Try.underlying5 hi hz1 x.root y.root W
    have hqk := fun W => run_equalIn_id (P := Try.prog) (t := 41) Try.underlying41 Try.underlying5 hi hz1 x.key y.key W
    clear hi hz1
    have h68 : ∀ (A : Option Addr) (n c : Nat) (m : Cmt), 0 < (cmtc A n c m).toArray.size := fun A n c m => by simp [cmtc_length]
    have hz1 := hS1.size
    have hz2 := hS2.size
    have ho1 : ∀ w7 w8, Step (fun k => k = b5) w6 w7 → Step (fun k => k = b6) w7 w8 → w8.cell? ⟨w.heap.size, 0, none⟩ = some (.slice A n c) := fun w7 w8 h7 h8 => (cmt_fields ((((hc1.step hS26 id).step h7 (by have := hb1.lt; omega)).step h8 (by have := hb1.lt; omega)))).1
    have ho2 : ∀ w7 w8, Step (fun k => k = b5) w6 w7 → Step (fun k => k = b6) w7 w8 → w8.cell? ⟨w1.heap.size, 0, none⟩ = some (.slice B m d) := fun w7 w8 h7 h8 => (cmt_fields ((((hc2.step hS26 id).step h7 (by have := hb2.lt; omega)).step h8 (by have := hb2.lt; omega)))).1
    have hst : ∀ w7 w8, Step (fun k => k = b5) w6 w7 → Step (fun k => k = b6) w7 w8 → Step (fun _ => False) w w8 := fun w7 w8 h7 h8 => ((((hS1.tr hS2).tr hS26).trans h7 (fun i hi e => by omega)).trans h8 (fun i hi e => by omega))
    have hso1 : ∀ w7 w8, Step (fun k => k = b5) w6 w7 → Step (fun k => k = b6) w7 w8 → Sl w8 A n c 32 (x.pa.flatMap idc) := fun w7 w8 h7 h8 => h.keep (hst _ _ h7 h8)
    have hso2 : ∀ w7 w8, Step (fun k => k = b5) w6 w7 → Step (fun k => k = b6) w7 w8 → Sl w8 B m d 32 (y.pa.flatMap idc) := fun w7 w8 h7 h8 => h'.keep (hst _ _ h7 h8)
    have hex : (decide (x = y)) = (decide (x.root = y.root) && decide (x.key = y.key) && decide (x.seq = y.seq) && decide (x.author = y.author) && decide (x.text = y.text) && decide (x.pa = y.pa)) := by
      rw [Bool.eq_iff_iff]
      cases x; cases y
      simp only [Cmt.mk.injEq, Bool.and_eq_true, decide_eq_true_eq]
      exact ⟨fun ⟨a, b, c, d, e, f⟩ => ⟨⟨⟨⟨⟨b, c⟩, d⟩, e⟩, f⟩, a⟩, fun ⟨⟨⟨⟨⟨b, c⟩, d⟩, e⟩, f⟩, a⟩ => ⟨a, b, c, d, e, f⟩⟩
    have Hx := Lib.hid hex
    clear hex hz1 hz2
    have hto1 := str_toList x.text
    have hto2 := str_toList y.text
    by_cases hr : x.root = y.root
    · simp only [decide_eq_true hr] at hqr
      have Hr := Lib.hid hr
      clear hr
      by_cases hk : x.key = y.key
      · simp only [decide_eq_true hk] at hqk
        have Hk := Lib.hid hk
        clear hk
        by_cases hs : x.seq = y.seq
        · have hs' : (x.seq == y.seq) = true := by simpa using hs
          have Hs := Lib.hid hs
          clear hs
          by_cases hu : x.author = y.author
          · have hu' : (x.author == y.author) = true := by simpa using hu
            have Hu := Lib.hid hu
            clear hu
            by_cases ht : x.text = y.text
            · have ht' : (x.text == y.text) = true := by simpa using ht
              have Ht := Lib.hid ht
              clear ht
              go_wp2_with (first
                | (refine wl_put _ rfl 45 _ _ rfl b5 0 rfl (.slice none 0 0) rfl rfl rfl (by kernel_rfl) 50 _ hx6 (h68 _ _ _ _) ?_; intro w7 hx7 hS7; replace hx7 : Blk w7 b5 50 (cmtc none 0 0 x).toArray := (by simpa [cmtc] using hx7); have hb7 := hb6.step hS7 (by omega); clear hx6 hb6)
                | (refine wl_put _ rfl 45 _ _ rfl b6 0 rfl (.slice none 0 0) rfl rfl rfl (by kernel_rfl) 50 _ hb7 (h68 _ _ _ _) ?_; intro w8 hb8 hS8; replace hb8 : Blk w8 b6 50 (cmtc none 0 0 y).toArray := (by simpa [cmtc] using hb8); have hx8 := hx7.step hS8 (by omega); clear hx7 hb7; have hA := ho1 w7 w8 hS7 hS8; have hB := ho2 w7 w8 hS7 hS8; have hsA := hso1 w7 w8 hS7 hS8; have hsB := hso2 w7 w8 hS7 hS8; obtain ⟨-, r1, k1, q1, u1, t1⟩ := cmt_fields hx8.cells; obtain ⟨-, r2, k2, q2, u2, t2⟩ := cmt_fields hb8.cells; simp only [Nat.zero_add] at r1 k1 q1 u1 t1 r2 k2 q2 u2 t2)
                | (refine wl_load rfl 46 _ rfl b5 1 rfl (idc x.root) _ Try.underlying46 rfl (by rw [id_size, idc_length]) r1 ?_)
                | (refine wl_load rfl 46 _ rfl b6 1 rfl (idc y.root) _ Try.underlying46 rfl (by rw [id_size, idc_length]) r2 ?_)
                | (refine wl_load rfl 41 _ rfl b5 33 rfl (idc x.key) _ Try.underlying41 rfl (by rw [key_size', idc_length]) k1 ?_)
                | (refine wl_load rfl 41 _ rfl b6 33 rfl (idc y.key) _ Try.underlying41 rfl (by rw [key_size', idc_length]) k2 ?_)
                | (go_at_call 48; refine (equal_ids hsA hsB hb).mono ?_; rintro e w9 ⟨rfl, q, rfl⟩; clear hsA))
              go_ret
              exact ⟨by rw [Hx.out, decide_eq_true Hr.out, decide_eq_true Hk.out, decide_eq_true Hs.out, decide_eq_true Hu.out, decide_eq_true Ht.out]; simp, (hst _ _ hS7 hS8).drewN q⟩
            · have ht' : (x.text == y.text) = false := by simpa using ht
              go_wp2_with (first
                | (refine wl_put _ rfl 45 _ _ rfl b5 0 rfl (.slice none 0 0) rfl rfl rfl (by kernel_rfl) 50 _ hx6 (h68 _ _ _ _) ?_; intro w7 hx7 hS7; replace hx7 : Blk w7 b5 50 (cmtc none 0 0 x).toArray := (by simpa [cmtc] using hx7); have hb7 := hb6.step hS7 (by omega); clear hx6 hb6)
                | (refine wl_put _ rfl 45 _ _ rfl b6 0 rfl (.slice none 0 0) rfl rfl rfl (by kernel_rfl) 50 _ hb7 (h68 _ _ _ _) ?_; intro w8 hb8 hS8; replace hb8 : Blk w8 b6 50 (cmtc none 0 0 y).toArray := (by simpa [cmtc] using hb8); have hx8 := hx7.step hS8 (by omega); clear hx7 hb7; have hA := ho1 w7 w8 hS7 hS8; have hB := ho2 w7 w8 hS7 hS8; have hsA := hso1 w7 w8 hS7 hS8; have hsB := hso2 w7 w8 hS7 hS8; obtain ⟨-, r1, k1, q1, u1, t1⟩ := cmt_fields hx8.cells; obtain ⟨-, r2, k2, q2, u2, t2⟩ := cmt_fields hb8.cells; simp only [Nat.zero_add] at r1 k1 q1 u1 t1 r2 k2 q2 u2 t2)
                | (refine wl_load rfl 46 _ rfl b5 1 rfl (idc x.root) _ Try.underlying46 rfl (by rw [id_size, idc_length]) r1 ?_)
                | (refine wl_load rfl 46 _ rfl b6 1 rfl (idc y.root) _ Try.underlying46 rfl (by rw [id_size, idc_length]) r2 ?_)
                | (refine wl_load rfl 41 _ rfl b5 33 rfl (idc x.key) _ Try.underlying41 rfl (by rw [key_size', idc_length]) k1 ?_)
                | (refine wl_load rfl 41 _ rfl b6 33 rfl (idc y.key) _ Try.underlying41 rfl (by rw [key_size', idc_length]) k2 ?_))
              go_ret
              exact ⟨by rw [Hx.out, decide_eq_false ht]; simp, hst _ _ hS7 hS8⟩
          · have hu' : (x.author == y.author) = false := by simpa using hu
            go_wp2_with (first
              | (refine wl_put _ rfl 45 _ _ rfl b5 0 rfl (.slice none 0 0) rfl rfl rfl (by kernel_rfl) 50 _ hx6 (h68 _ _ _ _) ?_; intro w7 hx7 hS7; replace hx7 : Blk w7 b5 50 (cmtc none 0 0 x).toArray := (by simpa [cmtc] using hx7); have hb7 := hb6.step hS7 (by omega); clear hx6 hb6)
              | (refine wl_put _ rfl 45 _ _ rfl b6 0 rfl (.slice none 0 0) rfl rfl rfl (by kernel_rfl) 50 _ hb7 (h68 _ _ _ _) ?_; intro w8 hb8 hS8; replace hb8 : Blk w8 b6 50 (cmtc none 0 0 y).toArray := (by simpa [cmtc] using hb8); have hx8 := hx7.step hS8 (by omega); clear hx7 hb7; have hA := ho1 w7 w8 hS7 hS8; have hB := ho2 w7 w8 hS7 hS8; have hsA := hso1 w7 w8 hS7 hS8; have hsB := hso2 w7 w8 hS7 hS8; obtain ⟨-, r1, k1, q1, u1, t1⟩ := cmt_fields hx8.cells; obtain ⟨-, r2, k2, q2, u2, t2⟩ := cmt_fields hb8.cells; simp only [Nat.zero_add] at r1 k1 q1 u1 t1 r2 k2 q2 u2 t2)
              | (refine wl_load rfl 46 _ rfl b5 1 rfl (idc x.root) _ Try.underlying46 rfl (by rw [id_size, idc_length]) r1 ?_)
              | (refine wl_load rfl 46 _ rfl b6 1 rfl (idc y.root) _ Try.underlying46 rfl (by rw [id_size, idc_length]) r2 ?_)
              | (refine wl_load rfl 41 _ rfl b5 33 rfl (idc x.key) _ Try.underlying41 rfl (by rw [key_size', idc_length]) k1 ?_)
              | (refine wl_load rfl 41 _ rfl b6 33 rfl (idc y.key) _ Try.underlying41 rfl (by rw [key_size', idc_length]) k2 ?_))
            go_ret
            exact ⟨by rw [Hx.out, decide_eq_false hu]; simp, hst _ _ hS7 hS8⟩
        · have hs' : (x.seq == y.seq) = false := by simpa using hs
          go_wp2_with (first
            | (refine wl_put _ rfl 45 _ _ rfl b5 0 rfl (.slice none 0 0) rfl rfl rfl (by kernel_rfl) 50 _ hx6 (h68 _ _ _ _) ?_; intro w7 hx7 hS7; replace hx7 : Blk w7 b5 50 (cmtc none 0 0 x).toArray := (by simpa [cmtc] using hx7); have hb7 := hb6.step hS7 (by omega); clear hx6 hb6)
            | (refine wl_put _ rfl 45 _ _ rfl b6 0 rfl (.slice none 0 0) rfl rfl rfl (by kernel_rfl) 50 _ hb7 (h68 _ _ _ _) ?_; intro w8 hb8 hS8; replace hb8 : Blk w8 b6 50 (cmtc none 0 0 y).toArray := (by simpa [cmtc] using hb8); have hx8 := hx7.step hS8 (by omega); clear hx7 hb7; have hA := ho1 w7 w8 hS7 hS8; have hB := ho2 w7 w8 hS7 hS8; have hsA := hso1 w7 w8 hS7 hS8; have hsB := hso2 w7 w8 hS7 hS8; obtain ⟨-, r1, k1, q1, u1, t1⟩ := cmt_fields hx8.cells; obtain ⟨-, r2, k2, q2, u2, t2⟩ := cmt_fields hb8.cells; simp only [Nat.zero_add] at r1 k1 q1 u1 t1 r2 k2 q2 u2 t2)
            | (refine wl_load rfl 46 _ rfl b5 1 rfl (idc x.root) _ Try.underlying46 rfl (by rw [id_size, idc_length]) r1 ?_)
            | (refine wl_load rfl 46 _ rfl b6 1 rfl (idc y.root) _ Try.underlying46 rfl (by rw [id_size, idc_length]) r2 ?_)
            | (refine wl_load rfl 41 _ rfl b5 33 rfl (idc x.key) _ Try.underlying41 rfl (by rw [key_size', idc_length]) k1 ?_)
            | (refine wl_load rfl 41 _ rfl b6 33 rfl (idc y.key) _ Try.underlying41 rfl (by rw [key_size', idc_length]) k2 ?_))
          go_ret
          exact ⟨by rw [Hx.out, decide_eq_false hs]; simp, hst _ _ hS7 hS8⟩
      · simp only [decide_eq_false hk] at hqk
        go_wp2_with (first
          | (refine wl_put _ rfl 45 _ _ rfl b5 0 rfl (.slice none 0 0) rfl rfl rfl (by kernel_rfl) 50 _ hx6 (h68 _ _ _ _) ?_; intro w7 hx7 hS7; replace hx7 : Blk w7 b5 50 (cmtc none 0 0 x).toArray := (by simpa [cmtc] using hx7); have hb7 := hb6.step hS7 (by omega); clear hx6 hb6)
          | (refine wl_put _ rfl 45 _ _ rfl b6 0 rfl (.slice none 0 0) rfl rfl rfl (by kernel_rfl) 50 _ hb7 (h68 _ _ _ _) ?_; intro w8 hb8 hS8; replace hb8 : Blk w8 b6 50 (cmtc none 0 0 y).toArray := (by simpa [cmtc] using hb8); have hx8 := hx7.step hS8 (by omega); clear hx7 hb7; have hA := ho1 w7 w8 hS7 hS8; have hB := ho2 w7 w8 hS7 hS8; have hsA := hso1 w7 w8 hS7 hS8; have hsB := hso2 w7 w8 hS7 hS8; obtain ⟨-, r1, k1, q1, u1, t1⟩ := cmt_fields hx8.cells; obtain ⟨-, r2, k2, q2, u2, t2⟩ := cmt_fields hb8.cells; simp only [Nat.zero_add] at r1 k1 q1 u1 t1 r2 k2 q2 u2 t2)
          | (refine wl_load rfl 46 _ rfl b5 1 rfl (idc x.root) _ Try.underlying46 rfl (by rw [id_size, idc_length]) r1 ?_)
          | (refine wl_load rfl 46 _ rfl b6 1 rfl (idc y.root) _ Try.underlying46 rfl (by rw [id_size, idc_length]) r2 ?_)
          | (refine wl_load rfl 41 _ rfl b5 33 rfl (idc x.key) _ Try.underlying41 rfl (by rw [key_size', idc_length]) k1 ?_)
          | (refine wl_load rfl 41 _ rfl b6 33 rfl (idc y.key) _ Try.underlying41 rfl (by rw [key_size', idc_length]) k2 ?_))
        go_ret
        exact ⟨by rw [Hx.out, decide_eq_false hk]; simp, hst _ _ hS7 hS8⟩
    · simp only [decide_eq_false hr] at hqr
      go_wp2_with (first
        | (refine wl_put _ rfl 45 _ _ rfl b5 0 rfl (.slice none 0 0) rfl rfl rfl (by kernel_rfl) 50 _ hx6 (h68 _ _ _ _) ?_; intro w7 hx7 hS7; replace hx7 : Blk w7 b5 50 (cmtc none 0 0 x).toArray := (by simpa [cmtc] using hx7); have hb7 := hb6.step hS7 (by omega); clear hx6 hb6)
        | (refine wl_put _ rfl 45 _ _ rfl b6 0 rfl (.slice none 0 0) rfl rfl rfl (by kernel_rfl) 50 _ hb7 (h68 _ _ _ _) ?_; intro w8 hb8 hS8; replace hb8 : Blk w8 b6 50 (cmtc none 0 0 y).toArray := (by simpa [cmtc] using hb8); have hx8 := hx7.step hS8 (by omega); clear hx7 hb7; have hA := ho1 w7 w8 hS7 hS8; have hB := ho2 w7 w8 hS7 hS8; have hsA := hso1 w7 w8 hS7 hS8; have hsB := hso2 w7 w8 hS7 hS8; obtain ⟨-, r1, k1, q1, u1, t1⟩ := cmt_fields hx8.cells; obtain ⟨-, r2, k2, q2, u2, t2⟩ := cmt_fields hb8.cells; simp only [Nat.zero_add] at r1 k1 q1 u1 t1 r2 k2 q2 u2 t2)
        | (refine wl_load rfl 46 _ rfl b5 1 rfl (idc x.root) _ Try.underlying46 rfl (by rw [id_size, idc_length]) r1 ?_)
        | (refine wl_load rfl 46 _ rfl b6 1 rfl (idc y.root) _ Try.underlying46 rfl (by rw [id_size, idc_length]) r2 ?_))
      go_ret
      exact ⟨by rw [Hx.out, decide_eq_false hr]; simp, hst _ _ hS7 hS8⟩
end Go.Proofs.Ytemhfociaikijaa
