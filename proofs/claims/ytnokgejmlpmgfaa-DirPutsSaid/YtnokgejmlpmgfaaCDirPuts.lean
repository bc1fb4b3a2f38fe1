/- The law DirPuts: which entries may stand in a directory; them as bytes, or refused. -/
import Derived.Test.YtnokgejmlpmgfaaCDirAwake
import Derived.Test.YtnokgejmlpmgfaaCDirFew
import Derived.Test.YtnokgejmlpmgfaaCOpenDir
namespace Go.Proofs.Ytnokgejmlpmgfaa
open Go.RowKit
set_option linter.unusedVariables false
set_option linter.unusedSimpArgs false

set_option maxRecDepth 100000 in
set_option maxHeartbeats 2000000 in
theorem walk_DirPuts0 {w : World} {l : List En} {A : Option Addr} {c : Nat} (ha : Sl w A l.length c 100 (l.flatMap enK)) (ho : ∀ e ∈ l, EnOk e) :
    Calls Try.prog 3 #[.slice A l.length c] w fun r w' => r = .returned (.bool true) ∧ Below w.heap.size w w' := by
  have h := St.read0 ha (by omega)
  clear ha
  have Hok := Lib.hid ho
  obtain ⟨fw, hfw⟩ : ∃ fw, fewD l = fw := ⟨_, rfl⟩
  have Hf := Lib.hid hfw
  clear ho
  cases fw with
  | false =>
    clear hfw
    go_enter Try.func3, Try.ntmps3
    go_wp2_with (first | (go_at_call 13; refine (dir_awake h).mono ?_; clear h; rintro r w ⟨rfl, h⟩) | (go_at_call 14; refine (few_dir h).mono ?_; rw [Hf.out]; clear h; rintro r w ⟨rfl, h⟩))
    go_ret
    exact ⟨rfl, h.step.below⟩
  | true =>
    obtain ⟨hn, hm⟩ := fewD_yes hfw
    have Hnm := Lib.hid (fun e he => Nat.le_trans (hm e he) (by decide) : ∀ e ∈ l, e.name.length ≤ maxLen)
    have Hnm2 := Lib.hid (fun e he => Nat.le_trans (hm e he) (by decide) : ∀ e ∈ l, e.name.length ≤ 1000000)
    clear hfw hm
    obtain ⟨out, ho⟩ : ∃ out, doutM l = out := ⟨_, rfl⟩
    have Ho := Lib.hid ho
    obtain ⟨cc, hc⟩ : ∃ cc, doutC l = cc := ⟨_, rfl⟩
    have Hc := Lib.hid hc
    obtain ⟨D, hD⟩ : ∃ D, dirM l = D := ⟨_, rfl⟩
    have HD := Lib.hid hD
    clear ho hc hD
    have hss : ((str out).toList == (str out).toList) = true := by simp
    have hcc : (cc == cc) = true := by simp
    have hdd : (D == D) = true := by simp
    go_enter Try.func3, Try.ntmps3
    go_wp2_with (first
      | (go_at_call 13; refine (dir_awake h).mono ?_; clear h; rintro r w ⟨rfl, h⟩)
      | (go_at_call 14; refine (few_dir h).mono ?_; rw [Hf.out]; clear h; rintro r w ⟨rfl, h⟩)
      | (go_at_call 15; refine (dput_code h Hok.out).mono ?_; rw [Ho.out, Hc.out]; clear h; rintro e w ⟨A1, c1, rfl, h⟩)
      | (go_at_call 16; refine (dput_ref h Hnm2.out Hok.out).mono ?_; rw [Ho.out, Hc.out]; clear h; rintro e w ⟨A2, c2, rfl, h⟩)
      | (go_at_call 17; refine (dir_good h Hnm.out).mono ?_; rw [HD.out]; clear h; rintro e w ⟨rfl, h⟩)
      | (go_at_call 18; refine (dir_good_ref h Hnm2.out).mono ?_; rw [HD.out]; clear h; rintro e w ⟨rfl, h⟩)
      | (refine wl_at 29 rfl ?_; refine wl_reads rfl (ex_string _ _ _ rfl Try.underlying5 Try.underlying9 A1 out.length c1 rfl (h.sl A1 out.length c1)) ?_)
      | (refine wl_at 31 rfl ?_; refine wl_reads rfl (ex_string _ _ _ rfl Try.underlying5 Try.underlying9 A2 out.length c2 rfl (h.sl A2 out.length c2)) ?_))
    go_ret
    exact ⟨rfl, h.step.below⟩
theorem walk_DirPuts {w : World} {l : List En} {A : Option Addr} {n c : Nat} (hl : Sl w A n c 100 (l.flatMap enK)) (ho : ∀ e ∈ l, EnOk e) :
    Calls Try.prog 3 #[.slice A n c] w fun r w' => r = .returned (.bool true) ∧ Below w.heap.size w w' := by
  have hn : n = l.length := hl.n_flat enK_length (by omega)
  rw [hn] at hl
  rw [hn]
  exact walk_DirPuts0 hl ho
end Go.Proofs.Ytnokgejmlpmgfaa
