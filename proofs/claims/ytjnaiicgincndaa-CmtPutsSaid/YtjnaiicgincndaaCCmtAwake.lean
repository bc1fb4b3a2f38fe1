/- The example of chapter 12; which commits are small; a commit, commits as arguments. -/
import Derived.Test.YtjnaiicgincndaaCCmtRef
import Derived.Test.YtjnaiicgincndaaCB2
namespace Go.Proofs.Ytjnaiicgincndaa
open Go.RowKit Go.ChangeShapes Go.WideShapes Go.Deep

theorem sl_cmt1 {w : World} {g : Nat} {t : TypeId} {p : CmtAt} (hb : Blk w g t (cmtc p.A p.n p.c p.m).toArray) : Sl w (some ⟨g, 0, none⟩) 1 1 68 ([p].flatMap atc) :=
  ⟨by simp [atc_length], Nat.le_refl _, by decide, fun _ => ⟨_, 0, rfl, hb.lt, fun i u hu => by rw [Nat.zero_add, hb.cell]; simpa [atc] using hu⟩⟩
def cmt3 : Cmt := ⟨[], idz, idz, 3, 0, []⟩
set_option maxRecDepth 100000 in
set_option maxHeartbeats 1000000 in
theorem cmt_awake (w : World) : Calls Try.prog 13 #[] w fun e w' => e = .returned (.bool true) ∧ Step (fun _ => False) w w' := by
  have h0 : nextM (([] : List CmtAt).map (·.m.seq)) 0 = 0 := rfl
  have h4 : nextM (([⟨none, 0, 0, cmt3⟩] : List CmtAt).map (·.m.seq)) 0 = 4 := rfl
  have hok : ∀ p ∈ ([⟨none, 0, 0, cmt3⟩] : List CmtAt), CmtOk p.m := by simp [CmtOk, cmt3]
  have hnil : Sl w none 0 0 68 (([] : List CmtAt).flatMap atc) := Sl.nil w 68
  go_enter Try.func13, Try.ntmps13
  go_wp2_with (first
    | (go_at_call 51; refine (cmt_next (l := []) hnil (by omega) (by simp)).mono ?_; rintro e w1 ⟨rfl, hS1⟩; rw [h0]; clear h0 hnil)
    | (refine wl_build rfl 31 _ rfl (cmtc none 0 0 cmt3).toArray (by kernel_rfl) ?_)
    | (refine wl_buildSlice rfl 126 31 1 _ rfl (cmtc none 0 0 cmt3).toArray Try.underlying126 (by kernel_rfl) ?_; intro w2 hb2 hS2; have hs2 := sl_cmt1 (p := ⟨none, 0, 0, cmt3⟩) hb2; clear hb2)
    | (go_at_call 51; refine (cmt_next hs2 (by omega) hok).mono ?_; rintro e w3 ⟨rfl, hS3⟩; rw [h4]; clear h4))
  go_ret
  exact ⟨rfl, (hS1.tr hS2).tr hS3⟩

set_option maxRecDepth 100000 in
theorem few_cmt {w : World} {x : Cmt} {A : Option Addr} {n c : Nat} :
    Calls Try.prog 17 #[.agg (cmtc A n c x).toArray] w fun r w' => r = .returned (.bool (decide (n ≤ 10) && decide (x.text.length ≤ 5000))) ∧ Step (fun _ => False) w w' := by
  have hsz := str_size x.text
  go_enter Try.func17, Try.ntmps17
  go_wp2_with (refine wl_box rfl 31 (.tmp 0) rfl (.agg (cmtc A n c x).toArray) rfl ?_; intro w1 hb1 hS1 hw; clear hw; obtain ⟨g0, -, -, -, -, t1⟩ := cmt_fields (off := 0) hb1.cells; simp only [Nat.zero_add] at t1)
  · rename_i h
    go_ret
    refine ⟨ret_bool rfl ?_, hS1⟩
    have h1 : n ≤ 10 := by omega
    rw [decide_eq_true h1, Bool.true_and]
    exact decide_eq_decide.2 (by omega)
  · rename_i h
    go_ret
    refine ⟨ret_bool rfl ?_, hS1⟩
    have h1 : ¬ n ≤ 10 := by omega
    rw [decide_eq_false h1, Bool.false_and]
end Go.Proofs.Ytjnaiicgincndaa
