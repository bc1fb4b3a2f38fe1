/- slices.Sort of texts, by the library's contract. -/
import Derived.Test.YtnokgejmlpmgfaaCB2
import Derived.Test.YtnokgejmlpmgfaaCTy
import Derived.Test.YtnokgejmlpmgfaaCLayStrs
import Derived.Test.YtnokgejmlpmgfaaCB1
import Derived.Shelf.SortG.Plain
import Derived.Shelf.SortG.SortNone
namespace Go.Proofs.Ytnokgejmlpmgfaa
open Go.RowKit Go.Shelf Go.Sort
set_option linter.unusedVariables false
set_option linter.unusedSimpArgs false

/-- Texts as they lie in a row. -/
def txc (s : List UInt8) : List Value := [.string (str s)]
theorem txc_length (s : List UInt8) : (txc s).length = 1 := rfl
theorem encStr_eq (s : List UInt8) : encStr s = .string (str s) := rfl
theorem flatK_one (d : Array (List UInt8)) : flatK txc 1 d = d.map encStr := by
  apply Array.ext_getElem?
  intro i
  by_cases hi : i < d.size
  · have h1 : i < (flatK txc 1 d).size := by rw [size_flatK]; omega
    rw [Array.getElem?_eq_getElem h1, Array.getElem?_map, Array.getElem?_eq_getElem hi, ← getElem!_pos (flatK txc 1 d) i h1, get_flatK _ _ _ _ (by omega), Nat.div_one, Nat.mod_one, getElem!_pos d i hi]
    rfl
  · rw [Array.getElem?_eq_none (by rw [size_flatK]; omega), Array.getElem?_eq_none (by simp; omega)]
theorem putCells_one (off : Nat) (d : Array (List UInt8)) (c : Array Value) : putCells encStr off d c = putCells id off (flatK txc 1 d) c := by
  rw [flatK_one]
  unfold putCells
  apply Array.ext_getElem?
  intro i
  simp only [Array.getElem?_mapIdx, Array.size_map]
  by_cases hi : i < c.size
  · rw [Array.getElem?_eq_getElem hi]
    simp only [Option.map_some]
    by_cases h : off ≤ i ∧ i < off + d.size
    · rw [if_pos h, if_pos h, getElem!_pos d (i - off) (by omega), getElem!_pos (d.map encStr) (i - off) (by simp; omega)]
      simp
    · rw [if_neg h, if_neg h]
  · rw [Array.getElem?_eq_none (by omega)]
    rfl
theorem putRow_one (w : World) (blk off : Nat) (d : Array (List UInt8)) : putRow encStr w blk off d = putRowK txc 1 w blk off d := by
  unfold putRowK putRow
  congr 1
  funext c
  exact putCells_one off d c
theorem holds_one {w : World} {blk off : Nat} {d : Array (List UInt8)} (h : HoldsK txc 1 w blk off d) : Holds encStr w blk off d := fun j hj => by
  have h1 : j < (flatK txc 1 d).size := by rw [size_flatK]; omega
  have h2 := h j h1
  rw [getElem!_pos (flatK txc 1 d) j h1] at h2
  have h3 : (flatK txc 1 d)[j] = encStr d[j]! := by
    simp only [flatK_one, Array.getElem_map, getElem!_pos d j hj]
  rw [h3] at h2
  exact h2
def sortS (l : List (List UInt8)) : List (List UInt8) := l.mergeSort fun x y => decide (x ≤ y)
set_option maxRecDepth 100000 in
theorem sort_strs {S : Nat → Prop} {w0 w : World} {L F : List Ent} {A : Option Addr} {n c : Nat} {l : List (List UInt8)} (h : St S w0 w L) [ko : SlotO L A 9 1 n c (l.flatMap txc) F] (hn : n = l.length) (hl : l.length ≤ 1000000) :
    Calls Try.prog 95 #[.slice A n c] w fun e w' => e = .returned (.tuple #[]) ∧ St S w0 w' (eOwn 9 1 A n c ((sortS l).flatMap txc) :: F) := by
  subst hn
  by_cases h0 : l = []
  · subst h0
    refine (AnyG.slices_Sort_string_none (P := Try.prog) layLayStrs A c w).mono ?_
    rintro e w' ⟨rfl, rfl⟩
    have e : sortS [] = [] := by simp [sortS]
    rw [e]
    exact ⟨rfl, h.perm ko.perm⟩
  · have hpos : 0 < l.length := List.length_pos_iff.2 h0
    obtain ⟨b, off, rfl, _⟩ := ((h.perm ko.perm).sl A l.length c).pos (by omega)
    obtain ⟨hH, hblk⟩ := (h.row (some ⟨b, off, none⟩) (k := ko)).holdsK txc_length (by decide)
    have hs := AnyG.slices_Sort_string (P := Try.prog) layLayStrs b off c l w (holds_one hH) hblk (by omega)
    refine hs.mono ?_
    rintro e w' ⟨rfl, m, os, rfl⟩
    refine ⟨rfl, ?_⟩
    have hlen : (sortS l).length = l.length := List.length_mergeSort _
    rw [putRow_one]
    exact h.sorted (ko := ko) (l' := sortS l) txc_length (by decide) hlen m os
end Go.Proofs.Ytnokgejmlpmgfaa
