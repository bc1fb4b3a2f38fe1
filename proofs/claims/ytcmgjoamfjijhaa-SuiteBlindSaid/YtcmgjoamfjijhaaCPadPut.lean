/- A text, padded. -/
import Derived.Test.YtcmgjoamfjijhaaCVecBytes
import Derived.Test.YtcmgjoamfjijhaaCPadB
import Derived.Test.YtcmgjoamfjijhaaCMac
namespace Go.Proofs.Ytcmgjoamfjijhaa
open Go.RowKit
set_option linter.unusedVariables false
set_option linter.unusedSimpArgs false

def pdM (b : List UInt8) : List UInt8 := le4 b.length ++ b ++ zeros (bkt b.length - 4 - b.length)
theorem pdM_length {b : List UInt8} (h : b.length ≤ 65532) : (pdM b).length = bkt b.length := by
  have h2 := bkt_pos (n := (b.length : Int)) (by omega)
  rw [pdM, List.length_append, List.length_append, le4_length, zeros_length]
  omega
theorem zeros_drop (n k : Nat) : (zeros n).drop k = zeros (n - k) := by simp [zeros]
set_option maxRecDepth 100000 in
set_option maxHeartbeats 1000000 in
theorem padput_code {S : Nat → Prop} {w0 w : World} {L : List Ent} {A : Option Addr} {n c : Nat} {b : List UInt8} (h : St S w0 w L) [ka : HasSl L A n c 1 (u8s b)] (hn : n ≤ 65532) :
    Calls Try.prog 34 #[.slice A n c] w fun e w' => ∃ A' c', e = .returned (.tuple #[.slice A' (bkt b.length) c', .int .i64 0]) ∧ St S w0 w' (eOwn 5 1 A' (bkt b.length) c' (u8s (pdM b)) :: L) := by
  have hb := (h.sl A n c).n_eq
  have hp := bkt_pos (n := (b.length : Int)) (by omega)
  have hle := bkt_le (b.length : Int)
  obtain ⟨K, hK⟩ : ∃ K, bkt (b.length : Int) = K := ⟨_, rfl⟩
  have hpd : pdM b = le4 b.length ++ b ++ zeros (K - 4 - b.length) := by rw [pdM, hK]
  rw [hK] at hp hle ⊢
  rw [hpd]
  have hz8 : (Try.prog.info? 5).map (·.zero) = some (some (.int .u8 0)) := by kernel_rfl
  have hmk : ∀ z, (Try.prog.info? 5).map (·.zero) = some (some z) → (madeCells z.cells (K * 1)).toList = u8s (zeros K) := fun z hz => by
    rw [hz8] at hz
    injection hz with hz
    injection hz with hz
    subst hz
    exact made_u8 K
  have Hmk := Lib.hid hmk
  have hwf : (Lit.int .i64 (b.length : Int)).wf = true := by simp [Lit.wf, IntKind.min, IntKind.max, IntKind.signed, IntKind.bits]; omega
  have HK := Lib.hid hK
  have hw : w32s [UInt32.ofNat b.length] = [.int .u32 (n : Int)] := by
    simp only [w32s, List.map_cons, List.map_nil]
    rw [w32, UInt32.toNat_ofNat', Nat.mod_eq_of_lt (by omega), ← hb]
  have hbm : bytesM [UInt32.ofNat b.length] = le4 n := by
    simp only [bytesM, List.flatMap_cons, List.flatMap_nil, List.append_nil, UInt32.toNat_ofNat']
    rw [Nat.mod_eq_of_lt (by omega), ← hb]
  have Hw := Lib.hid hw
  have Hbm := Lib.hid hbm
  have Hb := Lib.hid hb
  have hwr : IntKind.u32.wrap (n : Int) = (n : Int) := by rw [IntKind.wrap_u32]; omega
  have hK4 : ¬ K = 4 := by omega
  have hz : ((K : Int) == 0) = false := by simp; omega
  rw [← hb] at hp
  rw [← hb] at hwf HK ⊢
  clear hK hpd hz8 hmk hw hbm hb
  obtain ⟨hp1, hp2⟩ := hp
  have f4 : (4 : Int) ≤ (K : Int) := by omega
  go_enter Try.func34, Try.ntmps34
  go_wp2_with (first
    | (go_at_call 32; refine (bucket_code h (n : Int) hwf).mono ?_; rw [HK.out]; clear h; rintro e w ⟨rfl, h⟩)
    | (refine wl_runs rfl (ex_make h _ _ _ rfl K rfl rfl (by omega) (by simp [maxLen]; omega) (u8s (zeros K)) Hmk.out) ?_; clear h; rintro _ w ⟨g, rfl, h⟩)
    | (refine wl_runs rfl (ex_slice1i h _ _ rfl _ _ rfl) ?_; clear h; rintro _ w ⟨gw, rfl, h⟩; replace h : St _ _ w (eBlk gw 44 (w32s [UInt32.ofNat b.length]) :: _) := (by rw [Hw.out]; exact h))
    | (go_at_call 54; have hr1 : Row (w32s [UInt32.ofNat b.length]) 1 := Row.mk' rfl (by rw [Hw.out]; simp [Value.oneCell']) (by omega); refine (vbytes_code (l := [UInt32.ofNat b.length]) h (by omega)).mono ?_; rw [Hbm.out]; clear hr1 h; rintro e w ⟨A4, c4, rfl, h⟩)
    | (refine wl_runs rfl (ex_copy h _ _ _ _ rfl (some ⟨g, 0, none⟩) rfl A4 4 c4 rfl (h.sl A4 4 c4) (u8s_one _)) ?_; clear h; rintro _ w ⟨rfl, h⟩)
    | (refine wl_runs rfl (ex_copy_in h _ _ _ _ rfl g 0 4 (K - 4) (K - 4) rfl (by omega) A n c rfl (h.sl A n c) (u8s_one _) (by omega)) ?_; clear h; rintro _ w ⟨rfl, h⟩))
  have e0 : (u8s (le4 n)).take K ++ (u8s (zeros K)).drop 4 = u8s (le4 n ++ zeros (K - 4)) := by
    rw [List.take_of_length_le (by rw [u8s_length, le4_length]; omega), u8s_drop, zeros_drop, u8s_append]
  have e1 : (le4 n ++ zeros (K - 4)).take 4 = le4 n := List.take_left' (le4_length n)
  have e2 : (le4 n ++ zeros (K - 4)).drop (4 + n) = zeros (K - 4 - n) := by
    rw [← List.drop_drop, List.drop_left' (le4_length n), zeros_drop]
  rw [e0, u8s_take, u8s_drop, e1, e2, u8s_append, u8s_append] at h
  go_ret2
  exact ⟨_, K, rfl, h.to⟩
theorem padput_no {S : Nat → Prop} {w0 w : World} {L : List Ent} {A : Option Addr} {n c : Nat} (h : St S w0 w L) (hn : 65532 < n) (hm : n ≤ 1000000000) :
    Calls Try.prog 34 #[.slice A n c] w fun e w' => e = .returned (.tuple #[.slice none 0 0, .int .i64 2]) ∧ St S w0 w' L := by
  have hb : bkt (n : Int) = 0 := bkt_out (by omega)
  have hwf : (Lit.int .i64 (n : Int)).wf = true := by simp [Lit.wf, IntKind.min, IntKind.max, IntKind.signed, IntKind.bits]; omega
  go_enter Try.func34, Try.ntmps34
  go_wp2_with (first
    | (go_at_call 32; refine (bucket_code h (n : Int) hwf).mono ?_; rw [hb]; clear h; rintro e w ⟨rfl, h⟩))
  go_ret2
  exact ⟨rfl, h⟩
end Go.Proofs.Ytcmgjoamfjijhaa
