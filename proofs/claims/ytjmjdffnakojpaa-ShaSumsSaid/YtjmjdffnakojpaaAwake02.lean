/- The example of chapter 2; words held against themselves. -/
import Derived.Test.YtjmjdffnakojpaaShaM
import Derived.Lib.SlBytesConst
namespace Go.Proofs.Ytjmjdffnakojpaa
open Go.RowKit

theorem run_equalIn_words {P : Program} (w : World) (d : Nat) (t e : TypeId) (n : Nat) (ht : P.underlying t = some (.array n e)) (he : P.underlying e = some (.int .u32)) (hs : (P.info? e).map (·.size) = some 1)
    (xs : List UInt32) (hx : xs.length = n) :
    (Op.equalIn (d + 2) t (.agg (w32s xs).toArray) (.agg (w32s xs).toArray)).run P w = .ok true w := by
  have hsz : ∀ w, (sizeOf e).run P w = .ok 1 w := fun w => by
    cases hq : P.info? e with
    | none => simp [hq] at hs
    | some i =>
      have : i.size = 1 := by simpa [hq] using hs
      simp [sizeOf, typeInfo, hq, this]
  rw [Op.equalIn]
  simp only [Sem.run_bind, run_underlying ht, Result.andThen_ok, hsz, Std.Legacy.Range.forIn_eq_forIn_range', Std.Legacy.Range.size, Nat.sub_zero, Nat.add_sub_cancel, Nat.div_one]
  have hl : ∀ i ∈ List.range' 0 n 1, i < n := fun i hi => by simpa using (List.mem_range'_1.1 hi).2
  generalize List.range' 0 n 1 = l at hl ⊢
  induction l with
  | nil => simp
  | cons i l ih =>
    have hi : i < n := hl i (by simp)
    have px : (part e (w32s xs).toArray (i * 1)).run P w = .ok (.int .u32 ((xs.getD i 0).toNat : Int)) w := by
      have hg := w32s_get xs i (by omega)
      have : (w32s xs).toArray[i]? = some (.int .u32 ((xs.getD i 0).toNat : Int)) := by
        rw [List.getElem?_toArray, hg, List.getD_eq_getElem?_getD, List.getElem?_eq_getElem (by omega)]
        rfl
      simp only [part, Sem.run_bind, isAgg, run_underlying he, Result.andThen_ok, Nat.mul_one, this]
      rfl
    have pe : (Op.equalIn (d + 1) e (.int .u32 ((xs.getD i 0).toNat : Int)) (.int .u32 ((xs.getD i 0).toNat : Int))).run P w = .ok true w := by
      rw [run_equalIn_int w d e .u32 .u32 _ _ he]
      simp
    simp only [List.forIn_cons, Sem.run_bind, px, pe, Result.andThen_ok, Bool.not_true, Bool.false_eq_true, if_false, Sem.run_pure]
    exact ih fun j hj => hl j (by simp [hj])

set_option maxRecDepth 100000 in
theorem sha_awake (w : World) : Calls Try.prog 12 #[] w fun e w' => e = .returned (.bool true) ∧ Step (fun _ => False) w w' := by
  have h3 := abc_sum
  simp only [Prod.mk.injEq] at h3
  obtain ⟨h0, h1, h31⟩ := h3
  have hlen := sumM_length [97, 98, 99]
  generalize hT : sumM [97, 98, 99] = T at *
  have HT := Lib.hid hT
  have Hlen := Lib.hid hlen
  have g : ∀ i, i < 32 → (u8s T).toArray[i]? = some (.int .u8 ((T.getD i 0).toNat : Int)) := fun i hi => by
    rw [List.getElem?_toArray, u8s_get T i (by omega), List.getD_eq_getElem?_getD, List.getElem?_eq_getElem (by omega)]
    rfl
  have g0 := g 0 (by omega)
  have g1 := g 1 (by omega)
  have g31 := g 31 (by omega)
  rw [h0] at g0
  rw [h1] at g1
  rw [h31] at g31
  replace g0 : (u8s T).toArray[0]? = some (.int .u8 186) := g0
  replace g1 : (u8s T).toArray[1]? = some (.int .u8 120) := g1
  replace g31 : (u8s T).toArray[31]? = some (.int .u8 173) := g31
  clear g h0 h1 h31 hT hlen
  have hcv : (convert 22 22 (.slice (some ⟨w.heap.size, 0, none⟩) 3 3)).run Try.prog (w.alloc (.cells #[.int .u8 97, .int .u8 98, .int .u8 99] 5)) = .ok (.slice (some ⟨w.heap.size, 0, none⟩) 3 3) (w.alloc (.cells #[.int .u8 97, .int .u8 98, .int .u8 99] 5 (3, 4))) := Lib.run_convert_bytes_const w 22 5 #[.int .u8 97, .int .u8 98, .int .u8 99] 3 3 Try.underlying22 Try.underlying5
  have hs2 : Sl (w.alloc (.cells #[.int .u8 97, .int .u8 98, .int .u8 99] 5 (3, 4))) (some ⟨w.heap.size, 0, none⟩) 3 3 1 (u8s [97, 98, 99]) := ⟨rfl, Nat.le_refl _, by decide, fun _ => ⟨_, 0, rfl, by simp, fun i u hu => by rw [Nat.zero_add]; exact (World.cell?_alloc_mark _ _ _ _ i).trans (by rw [← hu, show u8s [97, 98, 99] = [.int .u8 97, .int .u8 98, .int .u8 99] from rfl]; simp)⟩⟩
  have hS2 : Step (fun _ => False) w (w.alloc (.cells #[.int .u8 97, .int .u8 98, .int .u8 99] 5 (3, 4))) := (Step.refl _ _).alloc _
  have Hcv := Lib.hid hs2
  go_enter Try.func12, Try.ntmps12
  go_wp2_with (first
    | (go_at_call 13; refine (sum_code Hcv.out (by omega)).mono ?_; rintro e w3 ⟨rfl, hS3⟩; rw [HT.out]; clear Hcv)
    | (refine wl_alloc rfl 25 rfl _ id_zero2 ?_; intro w4 hb4 hS4 hw; clear hw; replace hb4 : Blk w4 w3.heap.size 25 (u8s (zeros 32)).toArray := hb4)
    | (refine wl_store_all rfl 25 _ _ rfl w3.heap.size rfl (u8s T) rfl (by rw [id_size2, u8s_length, Hlen.out]) (u8s_one _) 25 _ hb4 (by rw [List.size_toArray, u8s_length, u8s_length, Hlen.out, zeros_length]) ?_; intro w5 hb5 hS5 hz; clear hz; have k0 := (hb5.cell 0).trans g0; have k1 := (hb5.cell 1).trans g1; have k31 := (hb5.cell 31).trans g31))
  go_ret
  exact ⟨rfl, ((hS2.tr hS3).tr hS4).trans hS5 (fun i hi e => by have h7 := hS2.size; have h8 := hS3.size; omega)⟩
end Go.Proofs.Ytjmjdffnakojpaa
