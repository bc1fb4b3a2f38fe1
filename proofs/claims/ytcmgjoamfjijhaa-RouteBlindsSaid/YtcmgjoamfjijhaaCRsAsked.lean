/- What the reference's suite was asked already. -/
import Derived.Test.YtcmgjoamfjijhaaCRs
import Derived.Test.YtcmgjoamfjijhaaCB2
namespace Go.Proofs.Ytcmgjoamfjijhaa
open Go.RowKit Go.Maps
set_option linter.unusedVariables false
set_option linter.unusedSimpArgs false

def rhit (q : Nat) (k : Id) (lab inp : List UInt8) (x : RRow) : Bool := decide (x.kind.1 = q ∧ x.k = k ∧ x.lab = lab ∧ x.inp = inp)
def rfind (rows : List RRow) (q : Nat) (k : Id) (lab inp : List UInt8) : Option RRow := rows.find? (rhit q k lab inp)
theorem rfind_mem {rows : List RRow} {q : Nat} {k : Id} {lab inp : List UInt8} {x : RRow} (h : rfind rows q k lab inp = some x) : x ∈ rows := List.mem_of_find?_eq_some h
theorem rfind_at {rows : List RRow} {q : Nat} {k : Id} {lab inp : List UInt8} {j : Nat} (hj : j < rows.length) (h0 : ∀ x ∈ rows.take j, rhit q k lab inp x = false) (h : rhit q k lab inp rows[j] = true) : rfind rows q k lab inp = some rows[j] := by
  have e : rows = rows.take j ++ rows[j] :: rows.drop (j + 1) := by rw [← List.drop_eq_getElem_cons hj, List.take_append_drop]
  generalize rows[j] = x at h e ⊢
  unfold rfind
  rw [e, List.find?_append, List.find?_eq_none.2 (by simpa using h0), List.find?_cons_of_pos h]
  rfl
theorem rfind_none {rows : List RRow} {q : Nat} {k : Id} {lab inp : List UInt8} (h0 : ∀ x ∈ rows, rhit q k lab inp x = false) : rfind rows q k lab inp = none := List.find?_eq_none.2 (by simpa using h0)
def NoHit (rows : List RRow) (q : Nat) (k : Id) (lab inp : List UInt8) (j : Nat) : Prop := ∀ x ∈ rows.take j, rhit q k lab inp x = false
theorem NoHit.succ {rows : List RRow} {q : Nat} {k : Id} {lab inp : List UInt8} {j : Nat} (h : NoHit rows q k lab inp j) (hj : j < rows.length) (hx : rhit q k lab inp rows[j] = false) : NoHit rows q k lab inp (j + 1) := by
  intro y hy
  rw [List.take_succ_eq_append_getElem hj] at hy
  rcases List.mem_append.1 hy with hy | hy
  · exact h y hy
  · rw [List.mem_singleton] at hy; subst hy; exact hx
def rans (o : Option RRow) : Value := match o with
  | some x => .tuple #[.slice x.oA x.out.length x.oc, .bool true]
  | none => .tuple #[.slice none 0 0, .bool false]
set_option maxRecDepth 100000 in
set_option maxHeartbeats 2000000 in
theorem rs_asked {S : Nat → Prop} {w0 w : World} {L F : List Ent} {g : Nat} {k : RsAt} {s : RSu} {A B : Option Addr} {n c m d : Nat} {lab inp : List UInt8} (h : St S w0 w L) [sl : SlotV L g k s F] [ka : HasSl F A n c 1 (u8s lab)] [kb : HasSl F B m d 1 (u8s inp)] (q : Nat) (hq : q < 100) (key : Id) :
    Calls Try.prog 87 #[.pointer (some ⟨g, 0, none⟩), .int .i64 (q : Int), .agg (u8s key.1).toArray, .slice A n c, .slice B m d] w fun e w' => e = .returned (rans (rfind s.rows q key lab inp)) ∧ St S w0 w' (RSP g k s F) := by
  replace h := h.rsOpen g
  have hrk := Row.u32 key
  obtain ⟨mode, tape, rows⟩ := s
  obtain ⟨tA, tc, rA, rc, a1, n1, c1, a2, n2, c2, cl⟩ := k
  simp only at h ⊢
  have t1 := True.intro
  go_enter Try.func87, Try.ntmps87
  go_wp2_with (first
    | (refine wl_runs rfl (ex_box h 29 _ rfl (u8s key.1) rfl) ?_; clear h; rintro _ w ⟨g7, rfl, h⟩)
    | (refine wl_reads rfl (ex_loadv h _ _ rfl _ _ rfl) ?_))
  go_loopw [19] (fun x wr => ∃ j : Nat, x = .int .i64 (j : Int) ∧ j ≤ rows.length ∧ Hid (NoHit rows q key lab inp j) ∧ St S w0 wr (eBlk g7 29 (u8s key.1) :: RSP g ⟨tA, tc, rA, rc, a1, n1, c1, a2, n2, c2, cl⟩ ⟨mode, tape, rows⟩ F)) (fun x _ => rows.length - (intOf x).toNat)
  case atStart => exact ⟨0, rfl, by omega, Lib.hid (fun x hx => by simp at hx), h⟩
  case round =>
    clear h
    obtain ⟨j, rfl, hj, Hno, h⟩ := hrel
    by_cases hlt : j < rows.length
    · have f1 : (j : Int) < (rows.length : Int) := by omega
      obtain ⟨b, off, rfl, hcel⟩ := (h.sl rA rows.length rc).elem (f := rrc) rrc_length hlt (by omega)
      have hmem : rows[j] ∈ rows := List.getElem_mem hlt
      have hyes := fun e => rfind_at (q := q) (k := key) (lab := lab) (inp := inp) hlt Hno.out e
      have hnot := fun e => NoHit.succ Hno.out hlt e
      obtain ⟨x, hx⟩ : ∃ x, rows[j] = x := ⟨_, rfl⟩
      rw [hx] at hyes hnot hcel hmem
      have h2 := h.poolGet (rows.flatMap rrp) (s := ⟨x.lA, x.lab.length, x.lc, 1, u8s x.lab⟩) (List.mem_flatMap.2 ⟨x, hmem, by simp [rrp]⟩)
      have h3 := h2.poolGet (rows.flatMap rrp) (s := ⟨x.iA, x.inp.length, x.ic, 1, u8s x.inp⟩) (List.mem_flatMap.2 ⟨x, hmem, by simp [rrp]⟩)
      simp only at h3
      replace h := h3
      have hxl := rrc_length x
      obtain ⟨xk, xkey, xl, xi, xo, xlA, xlc, xiA, xic, xoA, xoc⟩ := x
      simp only [rhit] at hyes hnot
      unfold rrc at hcel hxl
      simp only at hcel hxl h
      have hrx := Row.u32 xkey
      have Hyes := Lib.hid hyes
      have Hnot := Lib.hid hnot
      clear hyes hnot h2 h3 hx hmem
      have hx36 : (c_tabulariumref07_row (.int .i64 (xk.1 : Int)) (u8s xkey.1) (.slice xlA xl.length xlc) (.slice xiA xi.length xic) (.slice xoA xo.length xoc)).length = 36 := hxl
      by_cases e1 : xk.1 = q
      · have d1 : ((xk.1 : Int) == (q : Int)) = true := by simp; omega
        by_cases e2 : xkey = key
        · have d2 : (xkey.1 == key.1) = true := by simp [e2]
          by_cases e3 : xl = lab
          · have d3 : ((str xl).toList == (str lab).toList) = true := by simp [e3]
            by_cases e4 : xi = inp
            · have d4 : ((str xi).toList == (str inp).toList) = true := by simp [e4]
              have Hy := Lib.hid (Hyes.out (decide_eq_true ⟨e1, e2, e3, e4⟩))
              clear Hyes Hnot e1 e2 e3 e4 hxl
              go_wp2_with (first
                | (refine wl_at 22 rfl ?_; refine wl_reads rfl (ex_load_at _ _ rfl b (off + j * 36) rfl _ hx36 hcel) ?_)
                | (refine wl_at 13 rfl ?_; refine wl_runs rfl (ex_alloc h 92 rfl) ?_; clear h; rintro _ w ⟨g13, rfl, h⟩)
                | (refine wl_none rfl ?_; refine wl_runs rfl (ex_store h _ _ _ rfl g13 0 rfl _ rfl) ?_; clear h; rintro _ w ⟨rfl, h⟩; try dsimp only [Act.put])
                | (refine wl_at 31 rfl ?_; refine wl_reads rfl (ex_eq 29 (.tmp 29) (.tmp 30) _ rfl xkey.1 key.1 rfl rfl xkey.2 key.2 true d2) ?_)
                | (refine wl_at 24 rfl ?_; refine wl_reads rfl (ex_loadv h _ _ rfl _ _ rfl) ?_) | (refine wl_at 29 rfl ?_; refine wl_reads rfl (ex_loadv h _ _ rfl _ _ rfl) ?_) | (refine wl_at 30 rfl ?_; refine wl_reads rfl (ex_loadv h _ _ rfl _ _ rfl) ?_) | (refine wl_at 35 rfl ?_; refine wl_reads rfl (ex_loadv h _ _ rfl _ _ rfl) ?_) | (refine wl_at 36 rfl ?_; refine wl_reads rfl (ex_string _ _ _ rfl Try.underlying5 Try.underlying9 xlA xl.length xlc rfl (h.sl xlA xl.length xlc)) ?_) | (refine wl_at 38 rfl ?_; refine wl_reads rfl (ex_string _ _ _ rfl Try.underlying5 Try.underlying9 A n c rfl (h.sl A n c)) ?_) | (refine wl_at 43 rfl ?_; refine wl_reads rfl (ex_loadv h _ _ rfl _ _ rfl) ?_) | (refine wl_at 44 rfl ?_; refine wl_reads rfl (ex_string _ _ _ rfl Try.underlying5 Try.underlying9 xiA xi.length xic rfl (h.sl xiA xi.length xic)) ?_) | (refine wl_at 46 rfl ?_; refine wl_reads rfl (ex_string _ _ _ rfl Try.underlying5 Try.underlying9 B m d rfl (h.sl B m d)) ?_) | (refine wl_at 50 rfl ?_; refine wl_reads rfl (ex_loadv h _ _ rfl _ _ rfl) ?_))
              go_ret2
              rw [Hy.out]
              exact ⟨rfl, h.to⟩
            · have d4 : ((str xi).toList == (str inp).toList) = false := by rw [str_toList, str_toList]; simpa using e4
              have Hn := Lib.hid (Hnot.out (decide_eq_false fun h => e4 h.2.2.2))
              have hcap : rc ≤ 9223372036854775807 := by have := (h.sl (some ⟨b, off, none⟩) rows.length rc).cap; simpa [maxLen] using this
              have hle9 := (h.sl (some ⟨b, off, none⟩) rows.length rc).le
              clear Hyes Hnot hxl e1 e2 e3 e4
              go_wp2_with (first
                | (refine wl_at 22 rfl ?_; refine wl_reads rfl (ex_load_at _ _ rfl b (off + j * 36) rfl _ hx36 hcel) ?_)
                | (refine wl_at 13 rfl ?_; refine wl_runs rfl (ex_alloc h 92 rfl) ?_; clear h; rintro _ w ⟨g13, rfl, h⟩)
                | (refine wl_none rfl ?_; refine wl_runs rfl (ex_store h _ _ _ rfl g13 0 rfl _ rfl) ?_; clear h; rintro _ w ⟨rfl, h⟩; try dsimp only [Act.put])
                | (refine wl_at 31 rfl ?_; refine wl_reads rfl (ex_eq 29 (.tmp 29) (.tmp 30) _ rfl xkey.1 key.1 rfl rfl xkey.2 key.2 true d2) ?_)
                | (refine wl_at 24 rfl ?_; refine wl_reads rfl (ex_loadv h _ _ rfl _ _ rfl) ?_) | (refine wl_at 29 rfl ?_; refine wl_reads rfl (ex_loadv h _ _ rfl _ _ rfl) ?_) | (refine wl_at 30 rfl ?_; refine wl_reads rfl (ex_loadv h _ _ rfl _ _ rfl) ?_) | (refine wl_at 35 rfl ?_; refine wl_reads rfl (ex_loadv h _ _ rfl _ _ rfl) ?_) | (refine wl_at 36 rfl ?_; refine wl_reads rfl (ex_string _ _ _ rfl Try.underlying5 Try.underlying9 xlA xl.length xlc rfl (h.sl xlA xl.length xlc)) ?_) | (refine wl_at 38 rfl ?_; refine wl_reads rfl (ex_string _ _ _ rfl Try.underlying5 Try.underlying9 A n c rfl (h.sl A n c)) ?_) | (refine wl_at 43 rfl ?_; refine wl_reads rfl (ex_loadv h _ _ rfl _ _ rfl) ?_) | (refine wl_at 44 rfl ?_; refine wl_reads rfl (ex_string _ _ _ rfl Try.underlying5 Try.underlying9 xiA xi.length xic rfl (h.sl xiA xi.length xic)) ?_) | (refine wl_at 46 rfl ?_; refine wl_reads rfl (ex_string _ _ _ rfl Try.underlying5 Try.underlying9 B m d rfl (h.sl B m d)) ?_) | (refine wl_at 50 rfl ?_; refine wl_reads rfl (ex_loadv h _ _ rfl _ _ rfl) ?_))
              go_roundw
              case rel => exact ⟨j + 1, by go_num, by omega, Hn, h.to⟩
              case measure => simp [intOf]; omega
          · have d3 : ((str xl).toList == (str lab).toList) = false := by rw [str_toList, str_toList]; simpa using e3
            have Hn := Lib.hid (Hnot.out (decide_eq_false fun h => e3 h.2.2.1))
            have hcap : rc ≤ 9223372036854775807 := by have := (h.sl (some ⟨b, off, none⟩) rows.length rc).cap; simpa [maxLen] using this
            have hle9 := (h.sl (some ⟨b, off, none⟩) rows.length rc).le
            clear Hyes Hnot hxl e1 e2 e3
            go_wp2_with (first
              | (refine wl_at 22 rfl ?_; refine wl_reads rfl (ex_load_at _ _ rfl b (off + j * 36) rfl _ hx36 hcel) ?_)
              | (refine wl_at 13 rfl ?_; refine wl_runs rfl (ex_alloc h 92 rfl) ?_; clear h; rintro _ w ⟨g13, rfl, h⟩)
              | (refine wl_none rfl ?_; refine wl_runs rfl (ex_store h _ _ _ rfl g13 0 rfl _ rfl) ?_; clear h; rintro _ w ⟨rfl, h⟩; try dsimp only [Act.put])
              | (refine wl_at 31 rfl ?_; refine wl_reads rfl (ex_eq 29 (.tmp 29) (.tmp 30) _ rfl xkey.1 key.1 rfl rfl xkey.2 key.2 true d2) ?_)
              | (refine wl_at 24 rfl ?_; refine wl_reads rfl (ex_loadv h _ _ rfl _ _ rfl) ?_) | (refine wl_at 29 rfl ?_; refine wl_reads rfl (ex_loadv h _ _ rfl _ _ rfl) ?_) | (refine wl_at 30 rfl ?_; refine wl_reads rfl (ex_loadv h _ _ rfl _ _ rfl) ?_) | (refine wl_at 35 rfl ?_; refine wl_reads rfl (ex_loadv h _ _ rfl _ _ rfl) ?_) | (refine wl_at 36 rfl ?_; refine wl_reads rfl (ex_string _ _ _ rfl Try.underlying5 Try.underlying9 xlA xl.length xlc rfl (h.sl xlA xl.length xlc)) ?_) | (refine wl_at 38 rfl ?_; refine wl_reads rfl (ex_string _ _ _ rfl Try.underlying5 Try.underlying9 A n c rfl (h.sl A n c)) ?_; go_wp2))
            go_roundw
            case rel => exact ⟨j + 1, by go_num, by omega, Hn, h.to⟩
            case measure => simp [intOf]; omega
        · have d2 : (xkey.1 == key.1) = false := by
            rw [beq_eq_false_iff_ne]
            exact fun hh => e2 (Subtype.ext hh)
          have Hn := Lib.hid (Hnot.out (decide_eq_false fun h => e2 h.2.1))
          have hcap : rc ≤ 9223372036854775807 := by have := (h.sl (some ⟨b, off, none⟩) rows.length rc).cap; simpa [maxLen] using this
          have hle9 := (h.sl (some ⟨b, off, none⟩) rows.length rc).le
          clear Hyes Hnot hxl e1 e2
          go_wp2_with (first
            | (refine wl_at 22 rfl ?_; refine wl_reads rfl (ex_load_at _ _ rfl b (off + j * 36) rfl _ hx36 hcel) ?_)
            | (refine wl_at 13 rfl ?_; refine wl_runs rfl (ex_alloc h 92 rfl) ?_; clear h; rintro _ w ⟨g13, rfl, h⟩)
            | (refine wl_none rfl ?_; refine wl_runs rfl (ex_store h _ _ _ rfl g13 0 rfl _ rfl) ?_; clear h; rintro _ w ⟨rfl, h⟩; try dsimp only [Act.put])
            | (refine wl_at 31 rfl ?_; refine wl_reads rfl (ex_eq 29 (.tmp 29) (.tmp 30) _ rfl xkey.1 key.1 rfl rfl xkey.2 key.2 false d2) ?_; go_wp2)
            | (refine wl_at 24 rfl ?_; refine wl_reads rfl (ex_loadv h _ _ rfl _ _ rfl) ?_) | (refine wl_at 29 rfl ?_; refine wl_reads rfl (ex_loadv h _ _ rfl _ _ rfl) ?_) | (refine wl_at 30 rfl ?_; refine wl_reads rfl (ex_loadv h _ _ rfl _ _ rfl) ?_))
          go_roundw
          case rel => exact ⟨j + 1, by go_num, by omega, Hn, h.to⟩
          case measure => simp [intOf]; omega
      · have d1 : ((xk.1 : Int) == (q : Int)) = false := by simp; omega
        have Hn := Lib.hid (Hnot.out (decide_eq_false fun h => e1 h.1))
        have hcap : rc ≤ 9223372036854775807 := by have := (h.sl (some ⟨b, off, none⟩) rows.length rc).cap; simpa [maxLen] using this
        have hle9 := (h.sl (some ⟨b, off, none⟩) rows.length rc).le
        clear Hyes Hnot hxl e1
        go_wp2_with (first
          | (refine wl_at 22 rfl ?_; refine wl_reads rfl (ex_load_at _ _ rfl b (off + j * 36) rfl _ hx36 hcel) ?_)
          | (refine wl_at 13 rfl ?_; refine wl_runs rfl (ex_alloc h 92 rfl) ?_; clear h; rintro _ w ⟨g13, rfl, h⟩)
          | (refine wl_none rfl ?_; refine wl_runs rfl (ex_store h _ _ _ rfl g13 0 rfl _ rfl) ?_; clear h; rintro _ w ⟨rfl, h⟩; try dsimp only [Act.put])
          | (refine wl_at 24 rfl ?_; refine wl_reads rfl (ex_loadv h _ _ rfl _ _ rfl) ?_))
        go_roundw
        case rel => exact ⟨j + 1, by go_num, by omega, Hn, h.to⟩
        case measure => simp [intOf]; omega
    · have f1 : ¬ (j : Int) < (rows.length : Int) := by omega
      have hj2 : j = rows.length := by omega
      have hf := rfind_none (rows := rows) (q := q) (k := key) (lab := lab) (inp := inp) (fun x hx => Hno.out x (by rw [hj2, List.take_length]; exact hx))
      have Hf := Lib.hid hf
      clear hf
      go_wp2
      go_ret2
      rw [Hf.out]
      exact ⟨rfl, h.to⟩
end Go.Proofs.Ytcmgjoamfjijhaa
