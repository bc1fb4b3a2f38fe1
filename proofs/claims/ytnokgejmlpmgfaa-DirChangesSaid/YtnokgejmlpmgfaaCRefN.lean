/- Numbers as bytes: the reference's N, Text, Ids. -/
import Derived.Test.YtnokgejmlpmgfaaProg
import Derived.Test.YtnokgejmlpmgfaaCB1
import Derived.Test.YtnokgejmlpmgfaaCIds
import Derived.Test.YtnokgejmlpmgfaaCB2
namespace Go.Proofs.Ytnokgejmlpmgfaa
open Go.RowKit

theorem byte_parts : (Try.prog.info? 5).map (fun i => (i.zero, i.size, i.bytes)) = some (some (.int .u8 0), 1, 1) := by kernel_rfl

set_option maxRecDepth 100000 in
theorem n_ref {w : World} {A : Option Addr} {m c n : Nat} {l : List UInt8} (hl : Sl w A m c 1 (u8s l)) (hm : m ≤ 100000000) (hn : n < 2 ^ 64) :
    Calls Try.prog 57 #[.slice A m c, .int .u64 n] w fun e w' => ∃ A' m' c', e = .returned (.slice A' m' c') ∧ Own w' 5 1 A' m' c' (u8s (l ++ nM n)) ∧ Step (fun _ => False) w w' ∧ (∀ k, At A' k → w.heap.size ≤ k) := by
  obtain ⟨i0, hi0, hz0, hz1, hz2⟩ := info_parts byte_parts
  have hml : m = l.length := hl.n_eq
  have Hml := Lib.hid hml
  clear hml
  go_enter Try.func57, Try.ntmps57
  go_wp2_with (at_builtin; refine wl_append_new _ rfl _ _ 25 rfl 5 i0 _ 1 1 Try.underlying25 hi0 hz0 hz1 hz2 rfl (by decide) rfl A m c (u8s l) rfl hl (u8s_one _) (by simp [maxLen]; omega) (by omega) ?_; intro A1 c1 w1 hown1 hS1 hat1)
  go_loopw [1, 5] (fun v r wr => ∃ (x : Nat) (B : Option Addr) (k d : Nat) (q : List UInt8), v = .int .u64 x ∧ r = .slice B k d ∧ x < 2 ^ 64 ∧ Own wr 5 1 B k d (u8s q) ∧ Hid (q ++ nM x = l ++ nM n) ∧ Step (fun _ => False) w wr ∧ (∀ j, At B j → w.heap.size ≤ j)) (fun v _ _ => (intOf v).toNat)
  case atStart => exact ⟨n, A1, m, c1, l, rfl, rfl, hn, hown1, Lib.hid rfl, hS1, fun j hj => (hat1 j hj).1⟩
  case round =>
    obtain ⟨x, B, k, d, q, rfl, rfl, hx, hown, Hq, hS, hB⟩ := hrel
    have hk : k ≤ 100000010 := by
      have h1 := hown.sl.n_eq
      have h2 := congrArg List.length Hq.out
      have h3 := nM_ten hn
      have h4 := Hml.out
      simp at h2
      omega
    by_cases hs : x < 128
    · go_wp2_with (at_builtin; refine wl_append _ rfl _ _ 25 rfl 5 i0 _ 1 1 Try.underlying25 hi0 hz0 hz1 hz2 rfl (by decide) B k d (u8s q) rfl (hown.alloc _) _ 1 1 [.int .u8 (x : Int)] rfl (sl_one _ _ _) (by simp [Value.oneCell']) (by simp [maxLen]; omega) (by omega) ?_; intro B6 d6 w6 hown6 hS6 hB6')
      go_ret
      refine ⟨B6, k + 1, d6, rfl, ?_, (hS.alloc _).trans hS6 (fun i hi h => by have := hB i h; omega), fun j hj => ?_⟩
      · rw [← Hq.out, nM_small hs, ← u8s_append]
        have e : u8s [UInt8.ofNat x] = [.int .u8 (x : Int)] := by
          simp only [u8s, u8v, List.map_cons, List.map_nil, UInt8.toNat_ofNat']
          rw [Nat.mod_eq_of_lt (by omega)]
        rwa [e]
      · have := hS.size
        rcases hB6' j hj with h | h
        · exact hB j h
        · simp at h; omega
    · go_wp2_with (at_builtin; refine wl_append _ rfl _ _ 25 rfl 5 i0 _ 1 1 Try.underlying25 hi0 hz0 hz1 hz2 rfl (by decide) B k d (u8s q) rfl (hown.alloc _) _ 1 1 [.int .u8 (bits .or .u8 ((x : Int) % 256) 128)] rfl (sl_one _ _ _) (by simp [Value.oneCell']) (by simp [maxLen]; omega) (by omega) ?_; intro B6 d6 w6 hown6 hS6 hB6')
      refine ⟨⟨x / 128, B6, k + 1, d6, q ++ [UInt8.ofNat (x % 128 + 128)], ?_, rfl, by omega, ?_, Lib.hid (by rw [← Hq.out, nM_big hs]; simp), (hS.alloc _).trans hS6 (fun i hi h => by have := hB i h; omega), fun j hj => ?_⟩, ?_⟩
      · exact congrArg (Value.int .u64) (by omega)
      · rw [← u8s_append]
        have e : u8s [UInt8.ofNat (x % 128 + 128)] = [.int .u8 (bits .or .u8 ((x : Int) % 256) 128)] := by
          rw [bits_goes]
          simp only [u8s, u8v, List.map_cons, List.map_nil, UInt8.toNat_ofNat']
          rw [Nat.mod_eq_of_lt (by omega)]
        rwa [e]
      · have := hS.size
        rcases hB6' j hj with h | h
        · exact hB j h
        · simp at h; omega
      · simp only [intOf]; omega

set_option maxRecDepth 100000 in
theorem text_ref {w : World} {A B : Option Addr} {m c n d : Nat} {l t : List UInt8} (hl : Sl w A m c 1 (u8s l)) (ht : Sl w B n d 1 (u8s t)) (hm : m ≤ 100000000) (hn : n ≤ 100000000) :
    Calls Try.prog 58 #[.slice A m c, .slice B n d] w fun e w' => ∃ A' m' c', e = .returned (.slice A' m' c') ∧ Own w' 5 1 A' m' c' (u8s (l ++ nM t.length ++ t)) ∧ Step (fun _ => False) w w' ∧ (∀ k, At A' k → w.heap.size ≤ k) := by
  obtain ⟨i0, hi0, hz0, hz1, hz2⟩ := info_parts byte_parts
  have Htl := Lib.hid ht.n_eq
  have Hml := Lib.hid hl.n_eq
  go_enter Try.func58, Try.ntmps58
  go_wp2_with (first
    | (go_at_call 57; refine (n_ref (n := n) hl hm (by omega)).mono ?_; rintro e w1 ⟨A1, m1, c1, rfl, hown1, hS1, hA1⟩; have hm1 : m1 ≤ 100000010 := (by (have h1 := hown1.sl.n_eq; have h3 := nM_ten (n := n) (by omega); have h4 := Hml.out; simp at h1; omega)))
    | (at_builtin; refine wl_append _ rfl _ _ 25 rfl 5 i0 _ 1 1 Try.underlying25 hi0 hz0 hz1 hz2 rfl (by decide) A1 m1 c1 _ rfl hown1 B n d (u8s t) rfl (ht.keep hS1) (u8s_one _) (by simp [maxLen]; omega) (by omega) ?_; intro A2 c2 w2 hown2 hS2 hA2))
  go_ret
  refine ⟨A2, m1 + n, c2, rfl, ?_, hS1.trans hS2 (fun i hi h => by have := hA1 i h; omega), fun j hj => ?_⟩
  · rw [u8s_append, Htl.out] at hown2
    rw [Htl.out]
    exact hown2
  · have := hS1.size
    rcases hA2 j hj with h | h
    · exact hA1 j h
    · omega

/-- Ids as bytes. -/
theorem idsB_length (l : List Id) : (idsB l).length = l.length * 32 := by
  induction l with
  | nil => rfl
  | cons x l ih => rw [idsB, List.flatMap_cons, List.length_append, x.2]; change 32 + (idsB l).length = _; rw [ih, List.length_cons, Nat.succ_mul]; omega
theorem idsB_take {l : List Id} {k : Nat} (hk : k < l.length) : idsB (l.take (k + 1)) = idsB (l.take k) ++ (l[k]).1 := by
  rw [List.take_succ_eq_append_getElem hk, idsB, List.flatMap_append]
  simp [idsB]

set_option maxRecDepth 100000 in
theorem ids_ref {w : World} {A B : Option Addr} {m c n d : Nat} {l : List UInt8} {x : List Id} (hl : Sl w A m c 1 (u8s l)) (ht : Sl w B n d 32 (x.flatMap idc)) (hm : m ≤ 100000000) (hn : n ≤ 100000) :
    Calls Try.prog 136 #[.slice A m c, .slice B n d] w fun e w' => ∃ A' m' c', e = .returned (.slice A' m' c') ∧ Own w' 5 1 A' m' c' (u8s (l ++ nM x.length ++ idsB x)) ∧ Step (fun _ => False) w w' ∧ (∀ k, At A' k → w.heap.size ≤ k) := by
  obtain ⟨i0, hi0, hz0, hz1, hz2⟩ := info_parts byte_parts
  have Hn := Lib.hid (ht.n_flat idc_length (by omega))
  have Hml := Lib.hid hl.n_eq
  go_enter Try.func136, Try.ntmps136
  go_wp2_with (go_at_call 57; refine (n_ref (n := n) hl hm (by omega)).mono ?_; rintro e w1 ⟨A1, m1, c1, rfl, hown1, hS1, hA1⟩)
  have hm1 : m1 = m + (nM n).length := by
    have h1 := hown1.sl.n_eq
    have h4 := Hml.out
    simp at h1
    omega
  have h10 := nM_ten (n := n) (by omega)
  go_loopw [5, 15] (fun v i wr => ∃ (k : Nat) (C : Option Addr) (p e : Nat), v = .slice C p e ∧ i = .int .i64 k ∧ k ≤ n ∧ Own wr 5 1 C p e (u8s (l ++ nM n ++ idsB (x.take k))) ∧ Step (fun _ => False) w wr ∧ (∀ j, At C j → w.heap.size ≤ j)) (fun _ i _ => n - (intOf i).toNat)
  case atStart => exact ⟨0, A1, m1, c1, rfl, rfl, Nat.zero_le _, by simpa [idsB] using hown1, hS1, hA1⟩
  case round =>
    obtain ⟨k, C, p, e, rfl, rfl, hk, hown, hS, hC⟩ := hrel
    have hp : p = m + (nM n).length + k * 32 := by
      have h1 := hown.sl.n_eq
      have h4 := Hml.out
      have h5 := Hn.out
      simp [idsB_length, List.length_take] at h1
      rw [Nat.min_eq_left (by omega)] at h1
      omega
    have Hp := Lib.hid hp
    have hpb : p ≤ 100000000 + 10 + 100000 * 32 := by omega
    clear hp hm1
    by_cases hlt : k < n
    · have hkx : k < x.length := by have := Hn.out; omega
      obtain ⟨b, off, rfl, hc⟩ := (ht.keep hS).elem idc_length hkx (by omega)
      go_wp2_with (first
        | (refine wl_load rfl 85 _ rfl b (off + k * 32) rfl (idc x[k]) _ Try.underlying85 rfl (by rw [id_size, idc_length]) hc ?_)
        | (refine wl_alloc rfl 85 rfl _ id_zero ?_; intro w2 hb2 hS2 hw2)
        | (refine wl_store_all rfl 85 _ _ rfl wr.heap.size rfl (idc x[k]) rfl (by rw [id_size, idc_length]) (idc_one _) 85 _ hb2 (by rw [arr_size, zeros_length, idc_length]) ?_; intro w3 hb3 hS3 hw3)
        | (at_builtin; refine wl_append _ rfl _ _ 25 rfl 5 i0 _ 1 1 Try.underlying25 hi0 hz0 hz1 hz2 rfl (by decide) C p e _ rfl (((hown.keep hS2)).step hS3 (fun j hj e => by have := hown.lt j hj; omega)) _ 32 32 (u8s x[k].1) rfl (hb3.sl_ (idc_length _) (by decide)) (u8s_one _) (by simp [maxLen]; omega) (by omega) ?_; intro C4 e4 w4 hown4 hS4 hat4))
      refine ⟨⟨k + 1, C4, p + 32, e4, rfl, by go_num, by omega, ?_, ((hS.tr hS2).trans hS3 (fun i hi h => by have := hS.size; omega)).trans hS4 (fun i hi h => by have := hC i h; omega), fun j hj => ?_⟩, by simp only [intOf]; omega⟩
      · rw [u8s_append, List.append_assoc, ← idsB_take hkx] at hown4
        exact hown4
      · have := hS.size
        have := hS2.size
        have := hS3.size
        rcases hat4 j hj with h | h
        · exact hC j h
        · omega
    · have hkn : k = n := by omega
      rw [List.take_of_length_le (by have := Hn.out; omega), Hn.out] at hown
      clear hkn
      go_wp2
      go_ret
      exact ⟨C, p, e, rfl, hown, hS, hC⟩
end Go.Proofs.Ytnokgejmlpmgfaa
