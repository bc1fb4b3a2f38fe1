/- slices.SortFunc of ids by envel.Order, by the library's contract. -/
import Derived.Test.YtionnlckjjojnaaCOrder
import Derived.Test.YtionnlckjjojnaaCB2
import Derived.Test.YtionnlckjjojnaaCLinksM
import Derived.Test.YtionnlckjjojnaaCLaySort
import Derived.Test.YtionnlckjjojnaaCCollect
import Derived.Shelf.SlSortCmp.NoneTotal
namespace Go.Proofs.Ytionnlckjjojnaa
open Go.RowKit Go.Shelf Go.Sort
set_option linter.unusedVariables false
set_option linter.unusedSimpArgs false

/-- A box, with the world that it leaves written out. -/
theorem ex_box_eq {P : Program} {ρ : Operand → Value} {o : Oper} {w : World} (ty : TypeId) (x : Operand) (ho : o.op = .box ty x) (xs : List Value) (hx : ρ x = .agg xs.toArray) :
    Runs P ρ o w fun v w' => v = .pointer (some ⟨w.heap.size, 0, none⟩) ∧ w' = w.alloc (.cells xs.toArray ty) := by
  refine ⟨by simp [ho], by simp [Oper.about, ho], _, _, .inl ?_, rfl, rfl⟩
  unfold execOp
  simp only [ho, hx, Instr.box, newVar, newRow, Sem.run_bind, Sem.run_pure, Result.andThen_ok, run_newObj, Value.cells]
  rfl
set_option maxRecDepth 100000 in
theorem order_grow {w : World} {a b : Id} : Calls Try.prog 60 #[.agg (idc a).toArray, .agg (idc b).toArray] w fun e w' => e = .returned (.int .i64 (Lib.compareBytes a.1 b.1)) ∧ ∃ q os, w' = grow (w.drewN q) os := by
  have t1 := True.intro
  go_enter Try.func60, Try.ntmps60
  go_wp2_with (first
    | (clear t1; refine wl_runs rfl (ex_box_eq 33 (.tmp 0) rfl (idc a) rfl) ?_; rintro _ w1 ⟨rfl, hw⟩; have hb1 : Blk w1 w.heap.size 33 (idc a).toArray := (by rw [hw]; exact Blk.new _ _ _); have hS1 : Step (fun _ => False) w w1 := (by rw [hw]; exact (Step.refl _ _).alloc _); have hw1 := Lib.hid hw; clear hw)
    | (refine wl_runs rfl (ex_box_eq 33 (.tmp 1) rfl (idc b) rfl) ?_; rintro _ w2 ⟨rfl, hw⟩; have hb2 : Blk w2 w1.heap.size 33 (idc b).toArray := (by rw [hw]; exact Blk.new _ _ _); have hS2 : Step (fun _ => False) w1 w2 := (by rw [hw]; exact (Step.refl _ _).alloc _); have hw2 := Lib.hid hw; clear hw))
  have hs1 := (hb1.step hS2 id).sl_ (idc_length a) (by decide)
  have hs2 := hb2.sl_ (idc_length b) (by decide)
  have hcall := fun k => quiet_left (P := Try.prog) (w := w2) (n := k) ((bytes_compare (hs1.step (S := fun _ => False) ((Step.refl _ _).drewN k) (fun _ _ h => h)) (hs2.step (S := fun _ => False) ((Step.refl _ _).drewN k) (fun _ _ h => h))).mono (R' := fun e w' => e = .returned (.int .i64 (Lib.compareBytes a.1 b.1)) ∧ w2.drewN k = w') (fun e w' h => ⟨h.1, h.2.symm⟩))
  go_quiet ((go_at_call 72; exact hcall _))
  go_wp2
  go_ret
  refine ⟨rfl, nq, #[.cells (idc a).toArray 33, .cells (idc b).toArray 33], ?_⟩
  rw [hw2.out, hw1.out, alloc_eq_grow, alloc_eq_grow, grow_grow]
  rfl
instance : Inhabited Id := ⟨⟨zeros 32, zeros_length 32⟩⟩
def cfI (x y : Id) : Int := Lib.compareBytes x.1 y.1
theorem ltI_less (x y : Id) : ltOf cfI x y = lessI x y := by
  unfold ltOf cfI lessI
  cases h : lessM x.1 y.1 with
  | true =>
    have : ¬ 0 ≤ Lib.compareBytes x.1 y.1 := fun hh => by rw [(cmp_less _ _).1 hh] at h; cases h
    simp
    omega
  | false =>
    have := (cmp_less _ _).2 h
    simp
    omega
theorem swoI : SWO (ltOf cfI) where
  irrefl x := by rw [ltI_less]; exact lessI_irrefl x
  trans x y z h1 h2 := by rw [ltI_less] at *; exact lessI_trans h1 h2
  ntrans x y z h1 h2 := by
    rw [ltI_less] at *
    cases h : lessI x z with
    | false => rfl
    | true =>
      by_cases hxy : x = y
      · subst hxy; rw [h2] at h; cases h
      · have h3 : lessI y x = true := by
          cases hh : lessI y x with
          | true => rfl
          | false => exact absurd (lessI_total h1 hh) hxy
        rw [lessI_trans h3 h] at h2
        cases h2
def sortI (l : List Id) : List Id := l.mergeSort fun x y => !(ltOf cfI) y x
set_option maxRecDepth 100000 in
theorem sort_ids {S : Nat → Prop} {w0 w : World} {L F : List Ent} {A : Option Addr} {n c : Nat} {l : List Id} (h : St S w0 w L) [ko : SlotO L A 33 32 n c (l.flatMap idc) F] (hn : n = l.length) (hl : l.length ≤ 1000000) :
    Calls Try.prog 48 #[.slice A n c, .func (.func 60) #[] #[]] w fun e w' => e = .returned (.tuple #[]) ∧ St S w0 w' (eOwn 33 32 A n c ((sortI l).flatMap idc) :: F) := by
  subst hn
  by_cases h0 : l = []
  · subst h0
    refine (AnyF.slices_SortFunc_none (P := Try.prog) layLaySort A c _ w).mono ?_
    rintro e w' ⟨rfl, rfl⟩
    have e : sortI [] = [] := by simp [sortI]
    rw [e]
    exact ⟨rfl, h.perm ko.perm⟩
  · have hpos : 0 < l.length := List.length_pos_iff.2 h0
    obtain ⟨b, off, rfl, _⟩ := ((h.perm ko.perm).sl A l.length c).pos (by omega)
    obtain ⟨hH, hblk⟩ := (h.row (some ⟨b, off, none⟩) (k := ko)).holdsK idc_length (by decide)
    have eg : ∀ args w, (callFunc 60 args).run Try.prog w = .ok (.enter 60 args) w := enters_of Try.func60 (by kernel_rfl) rfl
    have hc : CmpLays Try.prog 60 #[] idc 32 cfI b off l.toArray.size w := fun m os dk hdk x y => by
      rw [Array.append_empty]
      exact order_grow
    have hs := AnyQ.slices_SortFunc_total (P := Try.prog) layLaySort 32 Try.isAgg33 Try.sizeOf33 idc idc_length idc_one cfI swoI 60 #[] b off c l.toArray w eg hc hH hblk (by simp; omega) (fun x y h1 h2 => by rw [ltI_less] at h1 h2; exact lessI_total h1 h2)
    rw [List.size_toArray] at hs
    refine hs.mono ?_
    rintro e w' ⟨rfl, m, os, rfl⟩
    refine ⟨rfl, ?_⟩
    have hlen : (sortI l).length = l.length := List.length_mergeSort _
    exact h.sorted (ko := ko) (l' := sortI l) idc_length (by decide) hlen m os
end Go.Proofs.Ytionnlckjjojnaa
