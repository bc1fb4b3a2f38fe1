/- Two texts held against each other, and a tag held against a given one. -/
import Derived.Test.YtjmjdffnakojpaaMacRef
namespace Go.Proofs.Ytjmjdffnakojpaa
open Go.RowKit
set_option linter.unusedVariables false
set_option linter.unusedSimpArgs false

def or8 (x y : UInt8) : UInt8 := x ||| y
theorem b_or (x y : UInt8) : bits .or .u8 (x.toNat : Int) (y.toNat : Int) = ((or8 x y).toNat : Int) := by
  rw [u8_or_nat _ _ x.toNat_lt y.toNat_lt, or8, UInt8.toNat_or]
theorem or_mixed (a x y : UInt8) : or8 a (xor8 x y) = 0 ↔ a = 0 ∧ x = y := by
  rw [or8, xor8, UInt8.or_eq_zero_iff, UInt8.xor_eq_zero_iff]
theorem u8_zero (a : UInt8) : ((a.toNat : Int) == 0) = decide (a = 0) := by
  by_cases h0 : a = 0
  · subst h0
    rfl
  · have h1 : a.toNat ≠ 0 := fun h => h0 (UInt8.toNat_inj.1 (by simpa using h))
    rw [decide_eq_false h0]
    simpa using h1
theorem take_same {a b : List UInt8} {j : Nat} (h1 : j < a.length) (h2 : j < b.length) : a.take (j + 1) = b.take (j + 1) ↔ a.take j = b.take j ∧ a[j] = b[j] := by
  rw [List.take_succ_eq_append_getElem h1, List.take_succ_eq_append_getElem h2]
  constructor
  · intro h
    obtain ⟨h3, h4⟩ := List.append_inj h (by rw [List.length_take, List.length_take]; omega)
    exact ⟨h3, by simpa using h4⟩
  · rintro ⟨h3, h4⟩
    rw [h3, h4]

set_option maxRecDepth 100000 in
set_option maxHeartbeats 1000000 in
theorem equal_code {S : Nat → Prop} {w0 w : World} {L : List Ent} {A B : Option Addr} {n c m d : Nat} {a b : List UInt8} (h : St S w0 w L) [ka : HasSl L A n c 1 (u8s a)] [kb : HasSl L B m d 1 (u8s b)] :
    Calls Try.prog 42 #[.slice A n c, .slice B m d] w fun e w' => e = .returned (.bool (decide (a = b))) ∧ St S w0 w' L := by
  have ha := (h.sl A n c).n_eq
  have hb := (h.sl B m d).n_eq
  have hnb : n ≤ maxLen := Nat.le_trans (h.sl A n c).le (h.sl A n c).cap
  replace hnb : n ≤ 9223372036854775807 := by unfold maxLen at hnb; omega
  have Ha := Lib.hid ha
  have Hb := Lib.hid hb
  by_cases hnm : n = m
  · subst hnm
    clear ha hb
    have f1 : ((n : Int) != (n : Int)) = false := by simp
    go_enter Try.func42, Try.ntmps42
    go_wp2
    go_loopw [5, 15] (fun v x wr => ∃ (j : Nat) (acc : UInt8), v = .int .u8 (acc.toNat : Int) ∧ x = .int .i64 (j : Int) ∧ j ≤ n ∧ (acc = 0 ↔ a.take j = b.take j) ∧ St S w0 wr L) (fun _ x _ => n - (intOf x).toNat)
    case atStart => exact ⟨0, 0, rfl, rfl, by omega, by simp, h⟩
    case round =>
      clear h f1
      obtain ⟨j, acc, rfl, rfl, hj, hacc, h⟩ := hrel
      by_cases hlt : j < n
      · have hja : j < a.length := by have := Ha.out; omega
        have hjb : j < b.length := by have := Hb.out; omega
        obtain ⟨b1, off1, rfl, _⟩ := (h.sl A n c).pos (by omega)
        obtain ⟨b2, off2, rfl, _⟩ := (h.sl B n d).pos (by omega)
        have hc1 : wr.cell? ⟨b1, off1 + j, none⟩ = some (.int .u8 (a[j].toNat : Int)) := (h.sl (some ⟨b1, off1, none⟩) n c).cellAt (by rw [u8s, List.getElem?_map, List.getElem?_eq_getElem hja]; rfl)
        have hc2 : wr.cell? ⟨b2, off2 + j, none⟩ = some (.int .u8 (b[j].toNat : Int)) := (h.sl (some ⟨b2, off2, none⟩) n d).cellAt (by rw [u8s, List.getElem?_map, List.getElem?_eq_getElem hjb]; rfl)
        have hts := take_same hja hjb
        rw [← hacc, ← or_mixed] at hts
        generalize a[j] = x at *
        generalize b[j] = y at *
        have hx := b_xor x y
        have hy := b_or acc (xor8 x y)
        have Hts := Lib.hid hts
        have f1 : (j : Int) < (n : Int) := by omega
        have t1 := True.intro
        clear hts hacc
        go_wp2_with (first
          | (clear t1; refine wl_reads rfl (ex_load1_at _ _ rfl b1 (off1 + j) rfl _ hc1) ?_)
          | (refine wl_reads rfl (ex_load1_at _ _ rfl b2 (off2 + j) rfl _ hc2) ?_))
        exact ⟨⟨j + 1, or8 acc (xor8 x y), rfl, by go_num, by omega, Hts.out.symm, h⟩, by simp only [intOf]; omega⟩
      · obtain rfl : j = n := by omega
        rw [List.take_of_length_le (by have := Ha.out; omega), List.take_of_length_le (by have := Hb.out; omega)] at hacc
        have hd : ((acc.toNat : Int) == 0) = decide (a = b) := (u8_zero acc).trans (decide_eq_decide.2 hacc)
        clear hacc
        go_wp2
        go_ret
        exact ⟨rfl, h⟩
  · have hd : decide (a = b) = false := decide_eq_false (fun e => by subst e; omega)
    have f1 : ((n : Int) != (m : Int)) = true := by simp; omega
    rw [hd]
    clear ha hb hd
    go_enter Try.func42, Try.ntmps42
    go_wp2
    go_ret
    exact ⟨rfl, h⟩

set_option maxRecDepth 100000 in
set_option maxHeartbeats 1000000 in
theorem check_code {S : Nat → Prop} {w0 w : World} {L : List Ent} {A B C : Option Addr} {n c m d k e : Nat} {key text tag : List UInt8} (h : St S w0 w L) [ka : HasSl L A n c 1 (u8s key)] [kb : HasSl L B m d 1 (u8s text)] [kc : HasSl L C k e 1 (u8s tag)] (hn : n ≤ 1000000) (hm : m ≤ 100000) :
    Calls Try.prog 28 #[.slice A n c, .slice B m d, .slice C k e] w fun e w' => e = .returned (.bool (decide (macM key text = tag))) ∧ St S w0 w' L := by
  have hb := (h.sl B m d).n_eq
  have hml := macM_length key text
  have hfm : macM key (([⟨B, m, d, text⟩] : List RowAt).flatMap (·.l)) = macM key text := by simp
  have hr : ∀ p ∈ ([⟨B, m, d, text⟩] : List RowAt), p.l.length ≤ 100000 := by simp; omega
  obtain ⟨M, hM⟩ : ∃ M, macM key text = M := ⟨_, rfl⟩
  rw [hM] at hfm hml
  rw [hM]
  have hrow : Row (u8s M) 32 := Row.mk' (by rw [u8s_length, hml]) (u8s_one _) (by omega)
  have Hfm := Lib.hid hfm
  have Hr := Lib.hid hr
  clear hM hfm hr hb hml
  go_enter Try.func28, Try.ntmps28
  go_wp2_with (first
    | (go_at_call 25; refine (mac_code h hn (by decide) Hr.out).mono ?_; rw [Hfm.out]; clear h; rintro e w ⟨rfl, h⟩)
    | (go_at_call 42; refine (equal_code h).mono ?_; clear h; rintro e w ⟨rfl, h⟩)
    | (refine wl_reads rfl (ex_load1 h _ _ rfl _ _ rfl) ?_) | (refine wl_reads rfl (ex_load h _ _ rfl _ _ rfl) ?_) | (refine wl_runs rfl (ex_store1i h _ _ _ rfl _ _ rfl _ _ rfl) ?_; clear h; rintro _ w ⟨rfl, h⟩; try dsimp only [Act.put]) | (refine wl_runs rfl (ex_store1s h _ _ _ rfl _ _ rfl _ _ _ rfl) ?_; clear h; rintro _ w ⟨rfl, h⟩; try dsimp only [Act.put]) | (refine wl_runs rfl (ex_store1b h _ _ _ rfl _ _ rfl _ rfl) ?_; clear h; rintro _ w ⟨rfl, h⟩; try dsimp only [Act.put]) | (refine wl_runs rfl (ex_store1t h _ _ _ rfl _ _ rfl _ rfl) ?_; clear h; rintro _ w ⟨rfl, h⟩; try dsimp only [Act.put]) | (refine wl_runs rfl (ex_store1p h _ _ _ rfl _ _ rfl _ rfl) ?_; clear h; rintro _ w ⟨rfl, h⟩; try dsimp only [Act.put]) | (refine wl_runs rfl (ex_store1m h _ _ _ rfl _ _ rfl _ rfl) ?_; clear h; rintro _ w ⟨rfl, h⟩; try dsimp only [Act.put]) | (refine wl_runs rfl (ex_store h _ _ _ rfl _ _ rfl _ rfl) ?_; clear h; rintro _ w ⟨rfl, h⟩; try dsimp only [Act.put]) | (refine wl_runs rfl (ex_alloc h _ rfl) ?_; clear h; rintro _ w ⟨g, rfl, h⟩) | (refine wl_runs rfl (ex_box h _ _ rfl _ rfl) ?_; clear h; rintro _ w ⟨g, rfl, h⟩) | (refine wl_runs rfl (ex_box1i h _ _ rfl _ _ rfl) ?_; clear h; rintro _ w ⟨g, rfl, h⟩) | (refine wl_runs rfl (ex_box1s h _ _ rfl _ _ _ rfl) ?_; clear h; rintro _ w ⟨g, rfl, h⟩) | (refine wl_runs rfl (ex_box1b h _ _ rfl _ rfl) ?_; clear h; rintro _ w ⟨g, rfl, h⟩) | (refine wl_runs rfl (ex_box1t h _ _ rfl _ rfl) ?_; clear h; rintro _ w ⟨g, rfl, h⟩) | (refine wl_runs rfl (ex_box1p h _ _ rfl _ rfl) ?_; clear h; rintro _ w ⟨g, rfl, h⟩) | (refine wl_runs rfl (ex_box1m h _ _ rfl _ rfl) ?_; clear h; rintro _ w ⟨g, rfl, h⟩) | (refine wl_runs rfl (ex_slice1 h _ _ rfl _ rfl) ?_; clear h; rintro _ w ⟨g, rfl, h⟩) | (refine wl_runs rfl (ex_slice1i h _ _ rfl _ _ rfl) ?_; clear h; rintro _ w ⟨g, rfl, h⟩) | (refine wl_runs rfl (ex_slice1s h _ _ rfl _ _ _ rfl) ?_; clear h; rintro _ w ⟨g, rfl, h⟩) | (refine wl_runs rfl (ex_slice1b h _ _ rfl _ rfl) ?_; clear h; rintro _ w ⟨g, rfl, h⟩) | (refine wl_runs rfl (ex_slice1t h _ _ rfl _ rfl) ?_; clear h; rintro _ w ⟨g, rfl, h⟩) | (refine wl_runs rfl (ex_slice1p h _ _ rfl _ rfl) ?_; clear h; rintro _ w ⟨g, rfl, h⟩) | (refine wl_runs rfl (ex_slice1m h _ _ rfl _ rfl) ?_; clear h; rintro _ w ⟨g, rfl, h⟩) | (refine wl_reads rfl (ex_lit0 _ rfl) ?_))
  go_ret
  exact ⟨rfl, h.to⟩
end Go.Proofs.Ytjmjdffnakojpaa
