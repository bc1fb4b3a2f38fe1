/- envel.Links: the program's. -/
import Derived.Test.YtionnlckjjojnaaCCompact
import Derived.Test.YtionnlckjjojnaaCSortFn
namespace Go.Proofs.Ytionnlckjjojnaa
open Go.RowKit
set_option linter.unusedVariables false
set_option linter.unusedSimpArgs false

theorem sortI_length (l : List Id) : (sortI l).length = l.length := List.length_mergeSort _
theorem sortI_sorted (l : List Id) : (sortI l).Pairwise fun x y => lessI y x = false := by
  have h := List.pairwise_mergeSort (le := fun x y => !(Go.Proofs.ltOf cfI) y x) (fun a b c h1 h2 => by
    simp only [Bool.not_eq_true'] at *
    exact swoI.ntrans _ _ _ h2 h1) (fun a b => by
    cases h : (Go.Proofs.ltOf cfI) b a with
    | false => rfl
    | true =>
      cases h2 : (Go.Proofs.ltOf cfI) a b with
      | false => rfl
      | true => have := swoI.trans _ _ _ h h2; rw [swoI.irrefl] at this; cases this) l
  exact h.imp (fun {x y} hh => by simpa [ltI_less] using hh)
theorem sortI_mem (l : List Id) (z : Id) : z ∈ sortI l ↔ z ∈ l := (List.mergeSort_perm l _).mem_iff
theorem comp_sort (l : List Id) : compM (sortI l) = linksM l := comp_links (sortI_sorted l) (sortI_mem l)
set_option maxRecDepth 100000 in
theorem sorted_vals {S : Nat → Prop} {w0 w : World} {F : List Ent} {gb : Nat} {A : Option Addr} {c : Nat} {l : List Id} (h : St S w0 w (VL gb A c l F)) (hl : l.length ≤ 1000000) :
    Calls Try.prog 58 #[.func (.func 71) #[] #[.pointer (some ⟨gb, 0, none⟩)], .func (.func 60) #[] #[]] w fun e w' => ∃ A1 c1, e = .returned (.slice A1 l.length c1) ∧ St S w0 w' (eOwn 33 32 A1 l.length c1 ((sortI l).flatMap idc) :: eSl A l.length c 32 (l.flatMap idc) :: F) := by
  go_enter Try.func58, Try.ntmps58
  go_wp2_with (first
    | (go_at_call 70; refine (collect_vals h hl).mono ?_; clear h; rintro e w ⟨A1, c1, rfl, h⟩)
    | (go_at_call 48; refine (sort_ids (A := A1) (c := c1) (l := l) h rfl hl).mono ?_; clear h; rintro e w ⟨rfl, h⟩))
  go_ret
  exact ⟨A1, c1, rfl, h⟩
set_option maxRecDepth 100000 in
theorem env_links {S : Nat → Prop} {w0 w : World} {L F : List Ent} {A : Option Addr} {n c : Nat} {l : List Id} (h : St S w0 w L) [ka : Slot L (eSl A n c 32 (l.flatMap idc)) F] (hl : l.length ≤ 1000000) :
    Calls Try.prog 38 #[.slice A n c] w fun e w' => ∃ A1 c1, e = .returned (.slice A1 (linksM l).length c1) ∧ St S w0 w' (eOwn 33 32 A1 (linksM l).length c1 ((linksM l).flatMap idc) :: eSl A n c 32 (l.flatMap idc) :: F) := by
  replace h := h.perm ka.perm
  have hn := (h.sl A n c).n_flat idc_length (by omega)
  subst hn
  have hcs := Lib.hid (comp_sort l)
  have hsl := sortI_length l
  rw [← hsl] at hl
  have Hsl := Lib.hid hsl
  clear hsl
  go_enter Try.func38, Try.ntmps38
  go_wp2_with (first
    | (go_at_call 59; refine (val_make h).mono ?_; clear h; rintro e w ⟨gb, rfl, h⟩)
    | (go_at_call 58; refine (sorted_vals (gb := gb) (A := A) (c := c) (l := l) (F := F) h (by rw [← Hsl.out]; exact hl)).mono ?_; clear h; rintro e w ⟨A1, c1, rfl, h⟩)
    | (go_at_call 61; refine (compact_ids (A := A1) (c := c1) (l := sortI l) h Hsl.out.symm hl).mono ?_; rw [hcs.out]; clear h; rintro e w ⟨c2, rfl, h⟩))
  go_ret
  exact ⟨A1, c2, rfl, h⟩
end Go.Proofs.Ytionnlckjjojnaa
