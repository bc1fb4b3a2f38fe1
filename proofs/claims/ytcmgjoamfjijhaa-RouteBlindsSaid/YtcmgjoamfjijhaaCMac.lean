/- The tag of parts with a key. -/
import Derived.Test.YtcmgjoamfjijhaaCRefSum
import Derived.Test.YtcmgjoamfjijhaaCRunSum
import Derived.Test.YtcmgjoamfjijhaaCB2
import Derived.Laws.BitsAllLaws
namespace Go.Proofs.Ytcmgjoamfjijhaa
open Go.RowKit
set_option linter.unusedVariables false
set_option linter.unusedSimpArgs false

def xor8 (x y : UInt8) : UInt8 := x ^^^ y
theorem b_xor (x y : UInt8) : bits .xor .u8 (x.toNat : Int) (y.toNat : Int) = ((xor8 x y).toNat : Int) := by
  rw [u8_xor_nat _ _ x.toNat_lt y.toNat_lt, xor8, UInt8.toNat_xor]
def xorB (b : UInt8) (l : List UInt8) : List UInt8 := l.map (xor8 · b)
theorem xorB_length (b : UInt8) (l : List UInt8) : (xorB b l).length = l.length := by simp [xorB]
/-- A key as it is taken. -/
def keyM (key : List UInt8) : List UInt8 := if key.length ≤ 64 then key else sumM key
theorem keyM_le (key : List UInt8) : (keyM key).length ≤ 64 := by
  unfold keyM
  split
  · assumption
  · rw [sumM_length]; omega
def padM (key : List UInt8) : List UInt8 := keyM key ++ zeros (64 - (keyM key).length)
theorem padM_length (key : List UInt8) : (padM key).length = 64 := by
  have := keyM_le key
  rw [padM, List.length_append, zeros_length]
  omega
def innerM (key text : List UInt8) : List UInt8 := sumM (xorB 0x36 (padM key) ++ text)
def macM (key text : List UInt8) : List UInt8 := sumM (xorB 0x5c (padM key) ++ innerM key text)
theorem macM_length (key text : List UInt8) : (macM key text).length = 32 := sumM_length _
theorem innerM_length (key text : List UInt8) : (innerM key text).length = 32 := sumM_length _
instance (key text : List UInt8) : Row (u8s (macM key text)) 32 := Row.mk' (by rw [u8s_length, macM_length]) (u8s_one _) (by omega)
instance (key text : List UInt8) : Row (u8s (innerM key text)) 32 := Row.mk' (by rw [u8s_length, innerM_length]) (u8s_one _) (by omega)
/-- So far mixed. -/
def mixM (b : UInt8) (l : List UInt8) (i : Nat) : List UInt8 := xorB b (l.take i) ++ l.drop i
theorem mixM_zero (b : UInt8) (l : List UInt8) : mixM b l 0 = l := by simp [mixM, xorB]
theorem mixM_all (b : UInt8) (l : List UInt8) {n : Nat} (h : l.length ≤ n) : mixM b l n = xorB b l := by
  rw [mixM, List.take_of_length_le h, List.drop_eq_nil_of_le h, List.append_nil]
theorem mixM_get (b : UInt8) (l : List UInt8) {i : Nat} (h : i < l.length) : (mixM b l i)[i]? = some l[i] := by
  rw [mixM, List.getElem?_append_right (by simp [xorB]; omega), xorB_length, List.length_take, Nat.min_eq_left (by omega), Nat.sub_self, List.getElem?_drop, Nat.add_zero, List.getElem?_eq_getElem h]
theorem mixM_set (b : UInt8) (l : List UInt8) {i : Nat} (h : i < l.length) : (mixM b l i).set i (xor8 l[i] b) = mixM b l (i + 1) := by
  have hl : (xorB b (l.take i)).length = i := by rw [xorB_length, List.length_take]; omega
  rw [mixM, List.set_append_right _ _ (by omega), hl, Nat.sub_self, List.drop_eq_getElem_cons h, List.set_cons_zero, mixM, List.take_succ_eq_append_getElem h]
  rw [show xorB b (l.take i ++ [l[i]]) = xorB b (l.take i) ++ [xor8 l[i] b] by rw [xorB, List.map_append]; rfl, List.append_assoc]
  rfl
theorem mixM_length (b : UInt8) (l : List UInt8) (i : Nat) : (mixM b l i).length = l.length := by
  rw [mixM, List.length_append, xorB_length, ← List.length_append, List.take_append_drop]
theorem made_u8 (n : Nat) : (madeCells (Value.int .u8 0).cells (n * 1)).toList = u8s (zeros n) := by
  apply List.ext_getElem?
  intro i
  simp only [madeCells, Value.cells, zeros, u8s, u8v, Nat.mul_one]
  by_cases h : i < n
  · simp [h, Nat.mod_one]
    rfl
  · simp [h]

set_option maxRecDepth 100000 in
set_option maxHeartbeats 1000000 in
theorem pad_code {S : Nat → Prop} {w0 w : World} {L : List Ent} {A : Option Addr} {n c : Nat} {key : List UInt8} (h : St S w0 w L) [ka : HasSl L A n c 1 (u8s key)] (hn : n ≤ 1000000) (b : UInt8) :
    Calls Try.prog 70 #[.slice A n c, .int .u8 (b.toNat : Int)] w fun e w' => ∃ g, e = .returned (.slice (some ⟨g, 0, none⟩) 64 64) ∧ St S w0 w' (eOwn 5 1 (some ⟨g, 0, none⟩) 64 64 (u8s (xorB b (padM key))) :: L) := by
  have hk := (h.sl A n c).n_eq
  have hz8 : (Try.prog.info? 5).map (·.zero) = some (some (.int .u8 0)) := by kernel_rfl
  have hmk : ∀ z, (Try.prog.info? 5).map (·.zero) = some (some z) → (madeCells z.cells (64 * 1)).toList = u8s (zeros 64) := fun z hz => by
    rw [hz8] at hz
    injection hz with hz
    injection hz with hz
    subst hz
    exact made_u8 64
  have Hmk := Lib.hid hmk
  clear hmk hz8
  have key_ok : ∀ (k : List UInt8), keyM key = k → (u8s k).take 64 ++ (u8s (zeros 64)).drop k.length = u8s (padM key) := fun k hk => by
    have := keyM_le key
    rw [hk] at this
    rw [padM, hk, List.take_of_length_le (by rw [u8s_length]; exact this), u8s_drop, u8s_append]
    congr 2
    rw [zeros, List.drop_replicate, zeros]
  have hpl := padM_length key
  obtain ⟨P, hP⟩ : ∃ P, padM key = P := ⟨_, rfl⟩
  rw [hP] at hpl key_ok
  rw [hP]
  have Hpl := Lib.hid hpl
  have Hk := Lib.hid hk
  have HK := Lib.hid key_ok
  clear hk key_ok hP hpl
  have tr := True.intro
  by_cases hlt : n ≤ 64
  all_goals
    go_enter Try.func70, Try.ntmps70
    go_wp2_with (first
      | (clear tr; refine wl_runs rfl (ex_make h _ _ _ rfl 64 rfl rfl (by decide) (by decide) (u8s (zeros 64)) Hmk.out) ?_; clear h; rintro _ w ⟨g, rfl, h⟩)
      | (go_at_call 46; refine (sum_code (h.sl A n c) (by omega)).mono ?_; rintro e w ⟨rfl, hs⟩; replace h := h.quiet hs; clear hs)
      | (refine wl_runs rfl (ex_alloc h 49 rfl) ?_; clear h; rintro _ w ⟨gs, rfl, h⟩)
      | (refine wl_runs rfl (ex_copy h _ _ _ _ rfl (some ⟨g, 0, none⟩) rfl A n c rfl (h.sl A n c) (u8s_one _)) ?_; clear h; rintro _ w ⟨rfl, h⟩)
      | (refine wl_runs rfl (ex_copy h _ _ _ _ rfl (some ⟨g, 0, none⟩) rfl (some ⟨gs, 0, none⟩) 32 32 rfl (h.sl (some ⟨gs, 0, none⟩) 32 32) (u8s_one _)) ?_; clear h; rintro _ w ⟨rfl, h⟩)
      | (refine wl_reads rfl (ex_loadv h _ _ rfl _ _ rfl) ?_) | (refine wl_runs rfl (ex_store1i h _ _ _ rfl _ _ rfl _ _ rfl) ?_; clear h; rintro _ w ⟨rfl, h⟩; try dsimp only [Act.put]) | (refine wl_runs rfl (ex_store1s h _ _ _ rfl _ _ rfl _ _ _ rfl) ?_; clear h; rintro _ w ⟨rfl, h⟩; try dsimp only [Act.put]) | (refine wl_runs rfl (ex_store1b h _ _ _ rfl _ _ rfl _ rfl) ?_; clear h; rintro _ w ⟨rfl, h⟩; try dsimp only [Act.put]) | (refine wl_runs rfl (ex_store1t h _ _ _ rfl _ _ rfl _ rfl) ?_; clear h; rintro _ w ⟨rfl, h⟩; try dsimp only [Act.put]) | (refine wl_runs rfl (ex_store1p h _ _ _ rfl _ _ rfl _ rfl) ?_; clear h; rintro _ w ⟨rfl, h⟩; try dsimp only [Act.put]) | (refine wl_runs rfl (ex_store1m h _ _ _ rfl _ _ rfl _ rfl) ?_; clear h; rintro _ w ⟨rfl, h⟩; try dsimp only [Act.put]) | (refine wl_runs rfl (ex_store h _ _ _ rfl _ _ rfl _ rfl) ?_; clear h; rintro _ w ⟨rfl, h⟩; try dsimp only [Act.put]) | (refine wl_runs rfl (ex_alloc h _ rfl) ?_; clear h; rintro _ w ⟨g, rfl, h⟩) | (refine wl_runs rfl (ex_box h _ _ rfl _ rfl) ?_; clear h; rintro _ w ⟨g, rfl, h⟩) | (refine wl_runs rfl (ex_box1i h _ _ rfl _ _ rfl) ?_; clear h; rintro _ w ⟨g, rfl, h⟩) | (refine wl_runs rfl (ex_box1s h _ _ rfl _ _ _ rfl) ?_; clear h; rintro _ w ⟨g, rfl, h⟩) | (refine wl_runs rfl (ex_box1b h _ _ rfl _ rfl) ?_; clear h; rintro _ w ⟨g, rfl, h⟩) | (refine wl_runs rfl (ex_box1t h _ _ rfl _ rfl) ?_; clear h; rintro _ w ⟨g, rfl, h⟩) | (refine wl_runs rfl (ex_box1p h _ _ rfl _ rfl) ?_; clear h; rintro _ w ⟨g, rfl, h⟩) | (refine wl_runs rfl (ex_box1m h _ _ rfl _ rfl) ?_; clear h; rintro _ w ⟨g, rfl, h⟩) | (refine wl_runs rfl (ex_slice1 h _ _ rfl _ rfl) ?_; clear h; rintro _ w ⟨g, rfl, h⟩) | (refine wl_runs rfl (ex_slice1i h _ _ rfl _ _ rfl) ?_; clear h; rintro _ w ⟨g, rfl, h⟩) | (refine wl_runs rfl (ex_slice1s h _ _ rfl _ _ _ rfl) ?_; clear h; rintro _ w ⟨g, rfl, h⟩) | (refine wl_runs rfl (ex_slice1b h _ _ rfl _ rfl) ?_; clear h; rintro _ w ⟨g, rfl, h⟩) | (refine wl_runs rfl (ex_slice1t h _ _ rfl _ rfl) ?_; clear h; rintro _ w ⟨g, rfl, h⟩) | (refine wl_runs rfl (ex_slice1p h _ _ rfl _ rfl) ?_; clear h; rintro _ w ⟨g, rfl, h⟩) | (refine wl_runs rfl (ex_slice1m h _ _ rfl _ rfl) ?_; clear h; rintro _ w ⟨g, rfl, h⟩) | (refine wl_reads rfl (ex_lit0 _ rfl) ?_))
    replace h : St S w0 w (eOwn 5 1 (some ⟨g, 0, none⟩) 64 64 (u8s P) :: L) := by
      first
        | (have hkey : keyM key = key := (by rw [keyM, if_pos (by rw [← Hk.out]; exact hlt)])
           rw [Hk.out, HK.out key hkey] at h
           exact h.to)
        | (have hkey : keyM key = sumM key := (by rw [keyM, if_neg (by rw [← Hk.out]; exact hlt)])
           have hr := HK.out (sumM key) hkey
           rw [sumM_length] at hr
           rw [hr] at h
           exact h.to)
    clear Hk HK Hmk
    go_loopw [20] (fun x wr => ∃ i : Nat, x = .int .i64 (i : Int) ∧ i ≤ 64 ∧ St S w0 wr (eOwn 5 1 (some ⟨g, 0, none⟩) 64 64 (u8s (mixM b P i)) :: L)) (fun x _ => 64 - (intOf x).toNat)
    case atStart => exact ⟨0, rfl, by omega, by rw [mixM_zero]; exact h⟩
    case round =>
      clear h
      obtain ⟨i, rfl, hi, h⟩ := hrel
      by_cases hii : i < 64
      · have hil : i < P.length := by rw [Hpl.out]; exact hii
        have hget := mixM_get b P hil
        have hset := mixM_set b P hil
        have hc : wr.cell? ⟨g, i, none⟩ = some (.int .u8 (P[i].toNat : Int)) := by
          have := (h.sl (some ⟨g, 0, none⟩) 64 64).cellAt (i := i) (v := u8v P[i]) (by rw [u8s, List.getElem?_map, hget]; rfl)
          rwa [Nat.zero_add] at this
        have hx := b_xor P[i] b
        generalize P[i] = x at *
        have Hset := Lib.hid hset
        have f1 : (i : Int) < 64 := by omega
        clear hset hget
        go_wp2_with (first
          | (refine wl_reads rfl (ex_load1_at _ _ rfl g i rfl _ hc) ?_)
          | (refine wl_runs rfl (ex_store_row h _ _ _ rfl g 0 i (by rw [Nat.zero_add]; rfl) (.int .u8 ((xor8 x b).toNat : Int)) rfl hii) ?_; clear h; rintro _ w ⟨rfl, h⟩; try dsimp only [Act.put]))
        rw [u8s_setl, Hset.out] at h
        exact ⟨⟨i + 1, by go_num, by omega, h⟩, by simp only [intOf]; omega⟩
      · have : i = 64 := by omega
        subst this
        rw [mixM_all b P (by rw [Hpl.out]; exact Nat.le_refl _)] at h
        go_wp2
        go_ret
        exact ⟨g, rfl, h⟩
end Go.Proofs.Ytcmgjoamfjijhaa
