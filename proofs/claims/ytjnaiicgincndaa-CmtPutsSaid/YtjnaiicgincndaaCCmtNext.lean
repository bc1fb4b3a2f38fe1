/- The number behind all commits. -/
import Derived.Test.YtjnaiicgincndaaCCmtM
namespace Go.Proofs.Ytjnaiicgincndaa
open Go.RowKit

/-- The number behind all. -/
def nextM : List Int → Int → Int
  | [], a => a
  | s :: l, a => if s = 18446744073709551615 then 18446744073709551615 else nextM l (max a (s + 1))

/-- A commit and where its parents lie. -/
structure CmtAt where
  A : Option Addr
  n : Nat
  c : Nat
  m : Cmt
def atc (p : CmtAt) : List Value := cmtc p.A p.n p.c p.m
theorem atc_length (p : CmtAt) : (atc p).length = 68 := cmtc_length _ _ _ _
def CmtOk (m : Cmt) : Prop := 0 ≤ m.seq ∧ m.seq < 18446744073709551616 ∧ 0 ≤ m.author ∧ m.author < 4294967296

theorem next_drop {l : List CmtAt} {j : Nat} (hj : j < l.length) (a : Int) :
    nextM ((l.drop j).map (·.m.seq)) a = if l[j].m.seq = 18446744073709551615 then 18446744073709551615 else nextM ((l.drop (j + 1)).map (·.m.seq)) (max a (l[j].m.seq + 1)) := by
  rw [List.drop_eq_getElem_cons hj, List.map_cons, nextM]

set_option maxRecDepth 100000 in
set_option maxHeartbeats 2000000 in
theorem cmt_next {w : World} {A : Option Addr} {n c : Nat} {l : List CmtAt} (h : Sl w A n c 68 (l.flatMap atc)) (hb : n ≤ 1000000000) (ho : ∀ p ∈ l, CmtOk p.m) :
    Calls Try.prog 51 #[.slice A n c] w fun e w' => e = .returned (.int .u64 (nextM (l.map (·.m.seq)) 0)) ∧ Step (fun _ => False) w w' := by
  have Hn := Lib.hid (h.n_flat atc_length (by omega))
  go_enter Try.func51, Try.ntmps51
  go_wp2
  go_loopw [3, 8] (fun v i wr => ∃ (j : Nat) (a : Int), j ≤ n ∧ v = .int .u64 a ∧ i = .int .i64 j ∧ 0 ≤ a ∧ a < 18446744073709551616 ∧ Hid (nextM ((l.drop j).map (·.m.seq)) a = nextM (l.map (·.m.seq)) 0) ∧ Step (fun _ => False) w wr) (fun _ i _ => n - (intOf i).toNat)
  case atStart => exact ⟨0, 0, Nat.zero_le _, rfl, rfl, by omega, by omega, Lib.hid (by simp), Step.refl _ _⟩
  case round =>
    obtain ⟨j, a, hj, rfl, rfl, ha, ha', Hr, hS⟩ := hrel
    by_cases hlt : j < n
    · have hjl : j < l.length := by rw [← Hn.out]; exact hlt
      obtain ⟨b, off, rfl, hc⟩ := (h.keep hS).elem atc_length hjl (by omega)
      have hok := ho _ (List.getElem_mem hjl)
      have hd := next_drop hjl a
      generalize l[j] = p at *
      obtain ⟨h0, h1, -, -⟩ := hok
      have Hd := Lib.hid hd
      clear hd
      by_cases hlast : p.m.seq = 18446744073709551615
      · have hl' : (p.m.seq == 18446744073709551615) = true := by simpa using hlast
        have Hl := Lib.hid hlast
        clear hlast
        go_wp2_with (first
          | (refine wl_load rfl 31 _ rfl b (off + j * 68) rfl (atc p) _ Try.underlying31 rfl (by rw [cmt_size, atc_length]) hc ?_)
          | (refine wl_alloc rfl 31 rfl _ cmt_zero ?_; intro w2 hb2 hS2 hw2; clear hw2)
          | (refine wl_store_all rfl 31 _ _ rfl wr.heap.size rfl (atc p) rfl (by rw [cmt_size, atc_length]) (cmtc_one _ _ _ _) 31 _ hb2 (by simp [Value.cells, cmtc_length, atc_length]) ?_; intro w3 hb3 hS3 hw3; clear hw3; have q3 := (cmt_fields (off := 0) hb3.cells).2.2.2.1; simp only [Nat.zero_add] at q3))
        go_ret
        refine ⟨?_, (hS.tr hS2).trans hS3 (fun i hi e => by have := hS.size; omega)⟩
        rw [← Hr.out, Hd.out, if_pos Hl.out]
        rfl
      · have hl' : (p.m.seq == 18446744073709551615) = false := by simpa using hlast
        have hw1 : IntKind.wrap .u64 (p.m.seq + 1) = p.m.seq + 1 := by rw [IntKind.wrap_u64]; omega
        go_wp2_with (first
          | (refine wl_load rfl 31 _ rfl b (off + j * 68) rfl (atc p) _ Try.underlying31 rfl (by rw [cmt_size, atc_length]) hc ?_)
          | (refine wl_alloc rfl 31 rfl _ cmt_zero ?_; intro w2 hb2 hS2 hw2; clear hw2)
          | (refine wl_store_all rfl 31 _ _ rfl wr.heap.size rfl (atc p) rfl (by rw [cmt_size, atc_length]) (cmtc_one _ _ _ _) 31 _ hb2 (by simp [Value.cells, cmtc_length, atc_length]) ?_; intro w3 hb3 hS3 hw3; clear hw3; have q3 := (cmt_fields (off := 0) hb3.cells).2.2.2.1; simp only [Nat.zero_add] at q3))
        refine ⟨⟨j + 1, _, by omega, rfl, by go_num, by split <;> omega, by split <;> omega, Lib.hid ?_, (hS.tr hS2).trans hS3 (fun i hi e => by have := hS.size; omega)⟩, by simp only [intOf]; omega⟩
        rw [← Hr.out, Hd.out, if_neg hlast]
        congr 1
        split <;> omega
    · have hjn : j = n := by omega
      go_wp2
      go_ret
      refine ⟨?_, hS⟩
      rw [← Hr.out, hjn, List.drop_eq_nil_of_le (by rw [← Hn.out]; exact Nat.le_refl _)]
      rfl

end Go.Proofs.Ytjnaiicgincndaa
