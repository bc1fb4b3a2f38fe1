/- Ids held against each other. -/
import Derived.Test.YtionnlckjjojnaaCB1
import Derived.Test.YtionnlckjjojnaaCIds
import Derived.Test.YtionnlckjjojnaaCB2
import Derived.Test.YtionnlckjjojnaaProg
import Derived.Lib.Bytealg
import Derived.Lib.BytesEntry
namespace Go.Proofs.Ytionnlckjjojnaa
open Go.RowKit

theorem run_bytesOf_sl {P : Program} {w : World} {A : Option Addr} {n c : Nat} {l : List UInt8} (h : Sl w A n c 1 (u8s l)) : (Extern.Bytes.bytesOf (.slice A n c)).run P w = .ok (str l) w := by
  have hn := h.n_eq
  subst hn
  cases A with
  | none =>
    have hl : l = [] := by
      rcases l with _ | ⟨x, l⟩
      · rfl
      · obtain ⟨b, off, e, _⟩ := h.pos (by simp)
        cases e
    subst hl
    rfl
  | some a =>
    have := Lib.run_loadBytesX (P := P) (w := w) (l.map fun b => (b.toNat : Int)) a .empty (fun j x hx => h.adds rfl j _ (by
      rw [List.getElem?_map] at hx
      rw [u8s, List.getElem?_map]
      cases hj : l[j]? with
      | none => rw [hj] at hx; cases hx
      | some y => rw [hj] at hx; simp at hx; simp [u8v, hx]))
    rw [List.length_map] at this
    simp only [Extern.Bytes.bytesOf]
    rw [this]
    congr 1
    simp only [Lib.bytesOf, str, List.map_map]
    have e : List.map ((fun (n : Int) => UInt8.ofNat n.toNat) ∘ fun (b : UInt8) => (b.toNat : Int)) l = l := (List.map_congr_left (fun b _ => by simp)).trans (List.map_id _)
    rw [e]
    apply ByteArray.ext
    show (#[] : Array UInt8) ++ l.toArray = l.toArray
    simp

theorem run_compare_sl {P : Program} {w : World} {A B : Option Addr} {n c m d : Nat} {a b : List UInt8} (ha : Sl w A n c 1 (u8s a)) (hb : Sl w B m d 1 (u8s b)) :
    (Extern.BytealgCompare.compare #[.slice A n c, .slice B m d]).run P w = .ok (.int .i64 (Lib.compareBytes a b)) w := by
  change Sem.run P (do pure (goInt (Extern.BytealgCompare.cmp (← Extern.Bytes.bytesOf (.slice A n c)) (← Extern.Bytes.bytesOf (.slice B m d))))) w = _
  simp only [Sem.run_bind, Sem.run_pure, Result.andThen, run_bytesOf_sl ha, run_bytesOf_sl hb]
  rw [Lib.cmp_eq]
  rfl

set_option maxRecDepth 100000 in
theorem bytes_compare {w : World} {A B : Option Addr} {n c m d : Nat} {a b : List UInt8} (ha : Sl w A n c 1 (u8s a)) (hb : Sl w B m d 1 (u8s b)) :
    Calls Try.prog 72 #[.slice A n c, .slice B m d] w fun e w' => e = .returned (.int .i64 (Lib.compareBytes a b)) ∧ w' = w := by
  have hx : (callFunc 85 #[.slice A n c, .slice B m d]).run Try.prog w = .ok (.value (.int .i64 (Lib.compareBytes a b))) w := by
    rw [run_callFunc_extern Try.func85 (by kernel_rfl) (by kernel_rfl) (by kernel_rfl) (by kernel_rfl), run_compare_sl ha hb]
    rfl
  go_enter Try.func72, Try.ntmps72
  go_wp2
  go_ret
  exact ⟨rfl, rfl⟩

/-- Byte by byte. -/
def lessM (a b : List UInt8) : Bool := Op.bytesLess a b

set_option maxRecDepth 100000 in
theorem less_ref {w : World} {a b : Id} : Calls Try.prog 62 #[.agg (idc a).toArray, .agg (idc b).toArray] w fun e w' => e = .returned (.bool (lessM a.1 b.1)) ∧ Step (fun _ => False) w w' := by
  have h1 := str_toList a.1
  have h2 := str_toList b.1
  go_enter Try.func62, Try.ntmps62
  go_wp2_with (first
    | (refine wl_box rfl 33 (.tmp 0) rfl (.agg (idc a).toArray) rfl ?_; intro w1 hb1 hS1 hw; clear hw)
    | (refine wl_box rfl 33 (.tmp 1) rfl (.agg (idc b).toArray) rfl ?_; intro w2 hb2 hS2 hw; clear hw))
  have hs1 := (hb1.step hS2 id).sl_ (idc_length a) (by decide)
  have hs2 := hb2.sl_ (idc_length b) (by decide)
  have hcv1 := fun k => run_bytes_string (P := Try.prog) (src := 92) (dst := 9) Try.underlying92 Try.underlying5 Try.underlying9 hs1 k
  have hcv2 := fun k => run_bytes_string (P := Try.prog) (src := 92) (dst := 9) Try.underlying92 Try.underlying5 Try.underlying9 hs2 k
  go_quiet (fail)
  go_wp2
  go_ret
  exact ⟨rfl, (hS1.tr hS2).drewN _⟩

set_option maxRecDepth 100000 in
theorem order_code {w : World} {a b : Id} : Calls Try.prog 60 #[.agg (idc a).toArray, .agg (idc b).toArray] w fun e w' => e = .returned (.int .i64 (Lib.compareBytes a.1 b.1)) ∧ Step (fun _ => False) w w' := by
  go_enter Try.func60, Try.ntmps60
  go_wp2_with (first
    | (refine wl_box rfl 33 (.tmp 0) rfl (.agg (idc a).toArray) rfl ?_; intro w1 hb1 hS1 hw; clear hw)
    | (refine wl_box rfl 33 (.tmp 1) rfl (.agg (idc b).toArray) rfl ?_; intro w2 hb2 hS2 hw; clear hw))
  have hs1 := (hb1.step hS2 id).sl_ (idc_length a) (by decide)
  have hs2 := hb2.sl_ (idc_length b) (by decide)
  have hcall := fun k => quiet_left (P := Try.prog) (w := w2) (n := k) ((bytes_compare (hs1.step (S := fun _ => False) ((Step.refl _ _).drewN k) (fun _ _ h => h)) (hs2.step (S := fun _ => False) ((Step.refl _ _).drewN k) (fun _ _ h => h))).mono (R' := fun e w' => e = .returned (.int .i64 (Lib.compareBytes a.1 b.1)) ∧ w2.drewN k = w') (fun e w' h => ⟨h.1, h.2.symm⟩))
  go_quiet ((go_at_call 72; exact hcall _))
  go_wp2
  go_ret
  exact ⟨rfl, (hS1.tr hS2).drewN _⟩
theorem cmp_less : ∀ a b : List UInt8, (0 ≤ Lib.compareBytes a b) ↔ lessM a b = false
  | [], [] => by simp [Lib.compareBytes, lessM, Op.bytesLess]
  | [], _ :: _ => by simp [Lib.compareBytes, lessM, Op.bytesLess]
  | _ :: _, [] => by simp [Lib.compareBytes, lessM, Op.bytesLess]
  | x :: a, y :: b => by
    have ih := cmp_less a b
    simp only [lessM] at ih
    simp only [Lib.compareBytes, lessM, Op.bytesLess]
    by_cases h1 : x < y
    · simp [h1]
    · by_cases h2 : y < x
      · have hne : (x == y) = false := by
          rw [beq_eq_false_iff_ne]
          intro e
          subst e
          exact UInt8.lt_irrefl _ h2
        simp [h1, h2, hne]
      · have hxy : x = y := UInt8.le_antisymm (UInt8.not_lt.1 h2) (UInt8.not_lt.1 h1)
        subst hxy
        simp [ih]
end Go.Proofs.Ytionnlckjjojnaa
