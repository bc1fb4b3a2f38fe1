/- Which directories the laws look at. -/
import Derived.Test.YtnokgejmlpmgfaaCDirM
import Derived.Test.YtnokgejmlpmgfaaCB2
import Derived.Test.YtnokgejmlpmgfaaCB1
namespace Go.Proofs.Ytnokgejmlpmgfaa
open Go.RowKit
set_option linter.unusedVariables false
set_option linter.unusedSimpArgs false

def fewD (l : List En) : Bool := l.all (fun e => decide (e.name.length ≤ 200)) && decide (l.length ≤ 40)
theorem fewD_no {l : List En} {k : Nat} {e : En} (hk : k < l.length) (he : l[k] = e) (h : 200 < e.name.length) : fewD l = false := by
  unfold fewD
  rw [Bool.and_eq_false_iff]
  refine .inl (List.all_eq_false.2 ⟨e, by rw [← he]; exact List.getElem_mem _, ?_⟩)
  simp
  omega
theorem fewD_end {l : List En} (h : ∀ j, (hj : j < l.length) → l[j].name.length ≤ 200) : fewD l = decide (l.length ≤ 40) := by
  unfold fewD
  have : l.all (fun e => decide (e.name.length ≤ 200)) = true := List.all_eq_true.2 fun e he => by
    obtain ⟨j, hj, rfl⟩ := List.getElem_of_mem he
    simpa using h j hj
  rw [this, Bool.true_and]
theorem fewD_yes {l : List En} (h : fewD l = true) : l.length ≤ 40 ∧ ∀ e ∈ l, e.name.length ≤ 200 := by
  unfold fewD at h
  rw [Bool.and_eq_true, List.all_eq_true] at h
  exact ⟨by simpa using h.2, fun e he => by simpa using h.1 e he⟩
set_option maxRecDepth 100000 in
set_option maxHeartbeats 1000000 in
theorem few_dir {S : Nat → Prop} {w0 w : World} {L : List Ent} {A : Option Addr} {c : Nat} {l : List En} (h : St S w0 w L) [ka : HasSl L A l.length c 100 (l.flatMap enK)] :
    Calls Try.prog 14 #[.slice A l.length c] w fun r w' => r = .returned (.bool (fewD l)) ∧ St S w0 w' L := by
  have hcap : c ≤ 9223372036854775807 := by have := (h.sl A l.length c).cap; simpa [maxLen] using this
  have hlc := (h.sl A l.length c).le
  go_enter Try.func14, Try.ntmps14
  go_wp2
  go_loopw [7] (fun iv wr => ∃ k : Nat, iv = .int .i64 (k : Int) ∧ k ≤ l.length ∧ Hid (∀ j, (hj : j < l.length) → j < k → l[j].name.length ≤ 200) ∧ St S w0 wr L) (fun iv _ => l.length - (intOf iv).toNat)
  case atStart => exact ⟨0, rfl, Nat.zero_le _, Lib.hid (fun j hj h => by omega), h⟩
  case round =>
    clear h
    obtain ⟨k, rfl, hk, Hal, h⟩ := hrel
    by_cases hkl : k < l.length
    · have f2 : (k : Int) < (l.length : Int) := by omega
      have t1 : ((k : Int)).toNat = k := by omega
      obtain ⟨e, he⟩ : ∃ e, l[k] = e := ⟨_, rfl⟩
      obtain ⟨b, off, rfl, _⟩ := (h.sl A l.length c).pos (by omega)
      have hcs : ∀ {w}, Sl w (some ⟨b, off, none⟩) l.length c 100 (l.flatMap enK) → Cells w b (off + k * 100) (enK e) := fun hs => by rw [← he]; exact hs.elemAt enK_length hkl (by omega)
      have He := Lib.hid he
      have Hkl := Lib.hid hkl
      obtain ⟨blind, name, kind, id, key, realm, epoch⟩ := e
      have r1 : Row (u8s blind.1) 32 := Row.u32 blind
      have r2 : Row (u8s id.1) 32 := Row.u32 id
      have r3 : Row (u8s key.1) 32 := Row.u32 key
      have hsz := str_size name
      clear he
      by_cases hlong : 200 < name.length
      · have f3 : (200 : Int) < (name.length : Int) := by omega
        have Hd := Lib.hid (fewD_no Hkl.out He.out hlong)
        go_wp2_with (first
          | (refine wl_at 10 rfl ?_; refine wl_reads rfl (ex_load_at _ _ rfl b (off + k * 100) rfl (enK ⟨blind, name, kind, id, key, realm, epoch⟩) (enK_length _) (hcs (h.sl (some ⟨b, off, none⟩) l.length c))) ?_)
          | (refine wl_runs rfl (ex_alloc h 87 rfl) ?_; clear h; rintro _ w ⟨g5, rfl, h⟩)
          | (refine wl_runs rfl (ex_store h _ _ _ rfl _ _ rfl (enK ⟨blind, name, kind, id, key, realm, epoch⟩) rfl) ?_; clear h; rintro _ w ⟨rfl, h⟩; try dsimp only [Act.put])
          | (refine wl_reads rfl (ex_loadv h _ _ rfl _ _ rfl) ?_))
        go_ret
        exact ⟨by rw [Hd.out]; rfl, h.to⟩
      · have f3 : ¬ (200 : Int) < (name.length : Int) := by omega
        have Hlong := Lib.hid hlong
        go_wp2_with (first
          | (refine wl_at 10 rfl ?_; refine wl_reads rfl (ex_load_at _ _ rfl b (off + k * 100) rfl (enK ⟨blind, name, kind, id, key, realm, epoch⟩) (enK_length _) (hcs (h.sl (some ⟨b, off, none⟩) l.length c))) ?_)
          | (refine wl_runs rfl (ex_alloc h 87 rfl) ?_; clear h; rintro _ w ⟨g5, rfl, h⟩)
          | (refine wl_runs rfl (ex_store h _ _ _ rfl _ _ rfl (enK ⟨blind, name, kind, id, key, realm, epoch⟩) rfl) ?_; clear h; rintro _ w ⟨rfl, h⟩; try dsimp only [Act.put])
          | (refine wl_reads rfl (ex_loadv h _ _ rfl _ _ rfl) ?_))
        refine ⟨⟨k + 1, by push_cast; rfl, by omega, Lib.hid (fun i hi h2 => ?_), h.to⟩, ?_⟩
        · rcases Nat.lt_succ_iff_lt_or_eq.1 h2 with h3 | rfl
          · exact Hal.out i hi h3
          · rw [He.out]; have := Hlong.out; show name.length ≤ 200; omega
        · simp only [intOf]
          omega
    · obtain rfl : k = l.length := by omega
      have Hd := Lib.hid (fewD_end (l := l) (fun j hj => Hal.out j hj hj))
      have hkk : ¬ ((l.length : Int) < (l.length : Int)) := by omega
      have hdc : decide ((l.length : Int) ≤ 40) = decide (l.length ≤ 40) := by
        rw [decide_eq_decide]; omega
      clear hkl
      go_wp2
      go_ret
      exact ⟨by rw [Hd.out, ← hdc]; rfl, h⟩
end Go.Proofs.Ytnokgejmlpmgfaa
