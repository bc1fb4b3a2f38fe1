/- The example of chapter 12; which commits are small; a commit, commits as arguments. -/
import Derived.Test.YtemhfociaikijaaCmtRef
import Derived.Test.YtemhfociaikijaaOpen
import Derived.Great.BuildSlice
namespace Go.Proofs.Ytemhfociaikijaa
open Go.RowKit Go.ChangeShapes Go.WideShapes Go.Deep

theorem wl_build {P : Program} {w : World} {ops : Array Oper} {rest : List Oper} {o : Oper} {a : Act} {Q : Exit → Act → World → Prop} (hgd : Region.wanted o (yielded ops a.tmps) = true) (t : TypeId) (parts : Array (Nat × Operand)) (ho : o.op = .build t parts)
    (cells : Array Value) (hb : P.built t (parts.map fun (i, x) => (i, a.eval x)).toList = some cells) (hk : wpList P ops Q rest (a.put o.dst (.agg cells)) w) : wpList P ops Q (o :: rest) a w := by
  refine wl_op hgd ?_ hk
  unfold execOp
  simp only [ho, Sem.run_bind, run_build w t _ cells hb, Result.andThen_ok, Sem.run_pure]
theorem wl_buildSlice {P : Program} {w : World} {ops : Array Oper} {rest : List Oper} {o : Oper} {a : Act} {Q : Exit → Act → World → Prop} (hgd : Region.wanted o (yielded ops a.tmps) = true) (t e : TypeId) (len : Nat) (parts : Array (Nat × Operand)) (ho : o.op = .buildSlice t len parts)
    (cells : Array Value) (hu : P.underlying t = some (.slice e))
    (hf : (P.info? e).bind (fun ie => ie.zero.bind fun z => if len * ie.size > 2 ^ 24 ∨ len * ie.size = 0 then none else Instr.fill (fun i => some (i * ie.size, ie.size)) ((Array.range (len * ie.size)).map (z.cells[· % z.cells.size]!)) (parts.map fun (i, x) => (i, a.eval x)).toList) = some cells)
    (hk : ∀ w', Blk w' w.heap.size e cells → Step (fun _ => False) w w' → wpList P ops Q rest (a.put o.dst (.slice (some ⟨w.heap.size, 0, none⟩) len len)) w') : wpList P ops Q (o :: rest) a w := by
  obtain ⟨ie, hie, hf⟩ := Option.bind_eq_some_iff.1 hf
  obtain ⟨z, hz, hf⟩ := Option.bind_eq_some_iff.1 hf
  split at hf
  · cases hf
  · rename_i hn
    refine wl_op hgd ?_ (hk _ (Blk.new w e cells) ((Step.refl _ _).alloc _))
    unfold execOp
    simp only [ho, Sem.run_bind, run_buildSlice w t e len _ cells ie z hu hie hz (fun h => hn (.inl h)) (fun h => hn (.inr h)) hf, Result.andThen_ok, Sem.run_pure]

theorem sl_cmt1 {w : World} {g : Nat} {t : TypeId} {p : CmtAt} (hb : Blk w g t (cmtc p.A p.n p.c p.m).toArray) : Sl w (some ⟨g, 0, none⟩) 1 1 68 ([p].flatMap atc) :=
  ⟨by simp [atc_length], Nat.le_refl _, by decide, fun _ => ⟨_, 0, rfl, hb.lt, fun i u hu => by rw [Nat.zero_add, hb.cell]; simpa [atc] using hu⟩⟩
def cmt3 : Cmt := ⟨[], idz, idz, 3, 0, []⟩
set_option maxRecDepth 100000 in
set_option maxHeartbeats 1000000 in
theorem cmt_awake (w : World) : Calls Try.prog 19 #[] w fun e w' => e = .returned (.bool true) ∧ Step (fun _ => False) w w' := by
  have h0 : nextM (([] : List CmtAt).map (·.m.seq)) 0 = 0 := rfl
  have h4 : nextM (([⟨none, 0, 0, cmt3⟩] : List CmtAt).map (·.m.seq)) 0 = 4 := rfl
  have hok : ∀ p ∈ ([⟨none, 0, 0, cmt3⟩] : List CmtAt), CmtOk p.m := by simp [CmtOk, cmt3]
  have hnil : Sl w none 0 0 68 (([] : List CmtAt).flatMap atc) := Sl.nil w 68
  go_enter Try.func19, Try.ntmps19
  go_wp2_with (first
    | (go_at_call 23; refine (cmt_next (l := []) hnil (by omega) (by simp)).mono ?_; rintro e w1 ⟨rfl, hS1⟩; rw [h0]; clear h0 hnil)
    | (refine wl_build rfl 50 _ rfl (cmtc none 0 0 cmt3).toArray (by kernel_rfl) ?_)
    | (refine wl_buildSlice rfl 51 50 1 _ rfl (cmtc none 0 0 cmt3).toArray Try.underlying51 (by kernel_rfl) ?_; intro w2 hb2 hS2; have hs2 := sl_cmt1 (p := ⟨none, 0, 0, cmt3⟩) hb2; clear hb2)
    | (go_at_call 23; refine (cmt_next hs2 (by omega) hok).mono ?_; rintro e w3 ⟨rfl, hS3⟩; rw [h4]; clear h4))
  go_ret
  exact ⟨rfl, (hS1.tr hS2).tr hS3⟩

set_option maxRecDepth 100000 in
theorem few_cmt {w : World} {x : Cmt} {A : Option Addr} {n c : Nat} :
    Calls Try.prog 20 #[.agg (cmtc A n c x).toArray] w fun r w' => r = .returned (.bool (decide (n ≤ 10) && decide (x.text.length ≤ 5000))) ∧ Step (fun _ => False) w w' := by
  have hsz := str_size x.text
  go_enter Try.func20, Try.ntmps20
  go_wp2_with (refine wl_box rfl 50 (.tmp 0) rfl (.agg (cmtc A n c x).toArray) rfl ?_; intro w1 hb1 hS1 hw; clear hw; obtain ⟨g0, -, -, -, -, t1⟩ := cmt_fields (off := 0) hb1.cells; simp only [Nat.zero_add] at t1)
  · rename_i h
    go_ret
    refine ⟨ret_bool rfl ?_, hS1⟩
    have h1 : n ≤ 10 := by omega
    rw [decide_eq_true h1, Bool.true_and]
    exact decide_eq_decide.2 (by omega)
  · rename_i h
    go_ret
    refine ⟨ret_bool rfl ?_, hS1⟩
    have h1 : ¬ n ≤ 10 := by omega
    rw [decide_eq_false h1, Bool.false_and]
end Go.Proofs.Ytemhfociaikijaa
