/- The blocks of a text, told one by one. -/
import Derived.Test.YtcmgjoamfjijhaaCTail02
import Derived.WalkMore
import Derived.Laws.Cover3
namespace Go.Proofs.Ytcmgjoamfjijhaa
open Go.RowKit Go.Shelf

def fullM (l : List UInt8) : List UInt8 := l ++ tailM l.length
theorem tailM_length (n : Nat) : (tailM n).length = 9 + zerosN n := by simp [tailM, zeros_length, lenB]; omega
theorem fullM_length (l : List UInt8) : (fullM l).length = l.length + 9 + zerosN l.length := by rw [fullM, List.length_append, tailM_length]; omega
theorem fullM_mod (l : List UInt8) : (fullM l).length % 64 = 0 := by
  rw [fullM_length]
  simp only [zerosN]
  omega
theorem fullM_bound (l : List UInt8) : (fullM l).length ≤ l.length + 72 := by
  rw [fullM_length]
  have : zerosN l.length < 64 := Nat.mod_lt _ (by omega)
  omega
def chunkM (F : List UInt8) (k : Nat) : List UInt8 := (F.drop (64 * k)).take 64
/-- A block: 64 bytes. -/
abbrev B64 := { l : List UInt8 // l.length = 64 }
def chunk64 (F : List UInt8) (k : Nat) : B64 := if h : (chunkM F k).length = 64 then ⟨chunkM F k, h⟩ else ⟨zeros 64, zeros_length 64⟩
def blocksM (l : List UInt8) : List B64 := (List.range ((fullM l).length / 64)).map (chunk64 (fullM l))
theorem blocksM_length (l : List UInt8) : (blocksM l).length = (fullM l).length / 64 := by simp [blocksM]
theorem chunkM_length {F : List UInt8} {k : Nat} (h : 64 * k + 64 ≤ F.length) : (chunkM F k).length = 64 := by simp [chunkM]; omega
theorem chunk64_val {F : List UInt8} {k : Nat} (h : 64 * k + 64 ≤ F.length) : (chunk64 F k).1 = chunkM F k := by
  have := chunkM_length h
  simp [chunk64, this]
theorem blocksM_take {l : List UInt8} {j : Nat} (h : j < (fullM l).length / 64) : (blocksM l).take (j + 1) = (blocksM l).take j ++ [chunk64 (fullM l) j] := by
  rw [List.take_succ_eq_append_getElem (by rw [blocksM_length]; exact h)]
  simp [blocksM]
theorem chunk_whole {l : List UInt8} {j : Nat} (h : 64 * j + 64 ≤ l.length) : chunkM (fullM l) j = (l.drop (64 * j)).take 64 := by
  rw [chunkM, fullM, List.drop_append_of_le_length (by omega), List.take_append_of_le_length (by simp; omega)]

theorem blocks_make {w : World} {A : Option Addr} {m c : Nat} : Calls Try.prog 73 #[.slice A m c] w fun e w' =>
    e = .returned (.func (.func 95) #[] #[.pointer (some ⟨w.heap.size, 0, none⟩)]) ∧ w'.cell? ⟨w.heap.size, 0, none⟩ = some (.slice A m c) ∧ Step (fun _ => False) w w' ∧ w'.heap.size = w.heap.size + 1 := by
  go_enter Try.func73, Try.ntmps73
  go_wp2
  go_ret
  exact ⟨rfl, (Blk.new w _ _).cell 0, (Step.refl _ _).alloc _, by simp⟩

theorem block_size3 : (Try.prog.info? 120).map (·.size) = some 64 := by kernel_rfl

theorem wp_op_append {P : Program} {w : World} {o : Oper} {a : Act} {K : Act → World → Prop} {Q : Exit → Act → World → Prop} (s x : Operand) (t : TypeId)
    (ho : o.op = .call { callee := .builtin .append, args := #[s, x], argTypes := #[t, t] }) (d : Tmp) (hd : o.dst = some d)
    (e : TypeId) (i : TypeInfo) (z : Value) (sz bytes : Nat) (ht : P.underlying t = some (.slice e)) (hi : P.info? e = some i) (hz : i.zero = some z)
    (hsize : i.size = sz) (hby : i.bytes = bytes) (hzs : z.cells.size = sz) (hsz : 0 < sz)
    (A : Option Addr) (n c : Nat) (xs : List Value) (hs : a.eval s = .slice A n c) (hown : Own w e sz A n c xs)
    (B : Option Addr) (m d' : Nat) (ys : List Value) (hx : a.eval x = .slice B m d') (hr : Sl w B m d' sz ys) (h1 : ∀ u ∈ ys, u.oneCell' = true)
    (h63 : n + m ≤ maxLen) (hbytes : (n + m) * bytes ≤ 140737488355328)
    (h : ∀ A' c' w', Own w' e sz A' (n + m) c' (xs ++ ys) → Step (At A) w w' → (∀ k, At A' k → At A k ∨ w.heap.size ≤ k) → K (a.put (some d) (.slice A' (n + m) c')) w') : o.wp P a w K Q := by
  obtain ⟨A', c', w', hrun, h2, h3, h4⟩ := run_append (P := P) w t o.type e i z sz bytes ht hi hz hsize hby hzs hsz A n c xs hown B m d' ys hr h1 h63 hbytes
  refine op_wp_value (v := .slice A' (n + m) c') (w' := w') ?_ (by rw [hd]; exact h A' c' w' h2 h3 h4)
  unfold execOp
  simp only [ho, resolve, invoke, builtin, Sem.run_bind, Sem.run_pure, Result.andThen_ok, List.map_toArray, List.map_cons, List.map_nil, hs, hx, hrun]

set_option maxRecDepth 100000 in
set_option maxHeartbeats 2000000 in
theorem blocks_tells {w : World} {l : List UInt8} {Bn n c : Nat} {A : Option Addr} (hc : w.cell? ⟨Bn, 0, none⟩ = some (.slice A n c)) (hl : Sl w A n c 1 (u8s l)) (hm : n ≤ 100000000) :
    Tells Try.prog 95 #[.pointer (some ⟨Bn, 0, none⟩)] (fun x : B64 => #[arr x.1]) (fun k => k = Bn ∨ Ft A n k ∨ w.heap.size ≤ k) (blocksM l) w := by
  intro f lp J Jx W hW hJ hJx hY h0
  refine callsIn_wide.2 ?_
  have hcW : W.cell? ⟨Bn, 0, none⟩ = some (.slice A n c) := (hW.cell (p := ⟨Bn, 0, none⟩) (World.block_lt_of_cell? w _ hc)).trans hc
  have hlW : Sl W A n c 1 (u8s l) := hl.step (Step.mono (T := fun k => w.heap.size ≤ k) ⟨hW.os, hW.tape, hW.output, hW.size, fun k hk hs => hW.block k (by omega)⟩ (fun _ _ h => h)) (fun k hk h => by have := hl.ft_lt (by omega) hk; omega)
  have hwW := hW.size
  have hn := hl.n_eq
  have Hn := Lib.hid hn
  obtain ⟨p, hp⟩ : ∃ p, n / 64 = p := ⟨_, rfl⟩
  have hwh : (n : Int) / 64 * 64 = 64 * (p : Int) := by omega
  have hpn : 64 * p ≤ n := by omega
  have hnp : n < 64 * p + 64 := by omega
  have hpF : p < (fullM l).length / 64 := by
    have := fullM_mod l
    have h2 := fullM_length l
    rw [← hn] at h2
    omega
  clear hc hl hW hn
  go_enter Try.func95, Try.ntmps95
  go_wp2
  (try simp only [hwh])
  have Hp := Lib.hid hp
  clear hwh hp
  go_loopw [4] (fun i wr => ∃ j : Nat, i = .int .i64 (64 * (j : Int)) ∧ j ≤ p ∧ J ((blocksM l).take j) wr ∧ wr.cell? ⟨Bn, 0, none⟩ = some (.slice A n c) ∧ Sl wr A n c 1 (u8s l) ∧ W.heap.size ≤ wr.heap.size) (fun i _ => (64 * p - intOf i).toNat)
  case atStart => exact ⟨0, rfl, by omega, by simpa using h0, hcW, hlW, Nat.le_refl _⟩
  case round =>
    obtain ⟨j, rfl, hj, hJr, hcr, hlr, hsz⟩ := hrel
    by_cases hlt : j < p
    · have hjF : j < (fullM l).length / 64 := by omega
      obtain ⟨b, off, rfl, hbl, hcells⟩ := hlr.pos (by omega)
      have hck : Cells wr b (off + 64 * j) (u8s (chunkM (fullM l) j)) := by
        intro i u hu
        have hi : i < 64 := by
          have := (List.getElem?_eq_some_iff.1 hu).1
          rw [u8s_length, chunkM] at this
          simp at this
          omega
        rw [Nat.add_assoc]
        refine hcells _ u ?_
        rw [chunk_whole (by have := Hn.out; omega), ← u8s_take, List.getElem?_take_of_lt hi, ← u8s_drop, List.getElem?_drop] at hu
        exact hu
      have hcl : (chunkM (fullM l) j).length = 64 := chunkM_length (by omega)
      have Hcl := Lib.hid hcl
      have f1 : (0 : Int) ≤ 64 * (j : Int) := by omega
      have f2 : 64 * (j : Int) ≤ (n : Int) := by omega
      have f3 : (64 * (j : Int)).toNat = 64 * j := by omega
      have f4 : 64 * (j : Int) < 64 * (p : Int) := by omega
      have f5 : 64 ≤ n - 64 * j := by omega
      have f6 : ¬ c = 64 * j := by have := hlr.le; omega
      have f7 : (j : Int) < (p : Int) := by omega
      have hat : ∀ W', (Instr.arrayAt 120 (.slice (some ⟨b, off + 64 * j, none⟩) (n - 64 * j) (c - 64 * j))).run Try.prog W' = .ok (.pointer (some ⟨b, off + 64 * j, none⟩)) W' := fun W' => run_arrayAt _ _ _ 64 _ _ _ Try.underlying120 f5
      clear hcl
      go_upto_region 4 with (fail)
      refine (wpIn_wide (n := f)).1 ?_
      obtain ⟨fn, tmps, assign, body, hy, hR⟩ := hY _ (chunk64 (fullM l) j) wr hJr (by rw [List.length_take, blocksM_length]; omega)
      simp only [arr, chunk64_val (show 64 * j + 64 ≤ (fullM l).length by omega)] at hy
      gi_wp2_with (refine wi_load rfl 120 _ rfl b (off + 64 * j) rfl (u8s (chunkM (fullM l) j)) _ Try.underlying120 rfl (by rw [block_size3, u8s_length, Hcl.out]) hck ?_)
      refine ⟨fun h => (by cases h), hR.mono ?_⟩
      rintro e W3 (⟨rfl, hJ3, hk3⟩ | ⟨rfl, hJx3⟩)
      · rw [← blocksM_take hjF] at hJ3
        have hc3 : W3.cell? ⟨Bn, 0, none⟩ = some (.slice (some ⟨b, off, none⟩) n c) := hk3.cell (p := ⟨Bn, 0, none⟩) hcr (.inl rfl)
        have hl3 := hk3.sl hlr (fun k hk => .inr (.inl hk))
        have hs3 := hk3.size
        gi_wp2
        go_wp2
        exact ⟨⟨j + 1, congrArg (Value.int .i64) (by omega), by omega, hJ3, hc3, hl3, by omega⟩, by simp only [intOf]; omega⟩
      · rw [← blocksM_take hjF] at hJx3
        gi_wp2
        go_wp2
        refine bodyPost_ret (results_none rfl _ _ _) rfl ?_
        exact ⟨⟨_, rfl⟩, .inr ⟨_, List.take_prefix _ _, hJx3⟩⟩
    · have : j = p := by omega
      subst this
      clear hj
      go_wp2
      have f1 : (0 : Int) ≤ 64 * (j : Int) := by omega
      have f2 : 64 * (j : Int) ≤ (n : Int) := by omega
      have f3 : (64 * (j : Int)).toNat = 64 * j := by omega
      have fS : ∀ w', Step (fun _ => False) wr w' → w'.cell? ⟨Bn, 0, none⟩ = some (.slice A n c) := fun w' h => h.cell hcr id
      refine wp_region_held_drew (S := fun w' => Step (fun _ => False) wr w') (by kernel_rfl) ((Step.refl _ _).drew) fun hS => ?_
      refine any_take 24 (i := 0) (fuel := 8) (v := .slice A n c) rfl rfl (by kernel_rfl) (by kernel_rfl) (by kernel_rfl) (fun _ _ _ h => h) (Or.inl ⟨by rfl, fun w hw => by have := fS w hw; go_simp⟩) hS ?_
      refine any_take 25 (i := 1) (fuel := 7) (v := .int .i64 (64 * (j : Int))) rfl rfl (by kernel_rfl) (by kernel_rfl) (by kernel_rfl) (fun _ _ _ h => h) (Or.inl ⟨by rfl, fun w hw => by go_simp⟩) hS ?_
      simp only [Act.put, List.setIfInBounds_toArray, List.set_cons_zero, List.set_cons_succ]
      refine any_take 26 (i := 2) (fuel := 6) (v := .slice (if c = 64 * j then A else A.map (·.add (64 * j * 1))) (n - 64 * j) (c - 64 * j)) rfl rfl (by kernel_rfl) (by kernel_rfl) (by kernel_rfl) (fun _ _ _ h => h) (Or.inl ⟨by rfl, fun w hw => by go_simp⟩) hS ?_
      refine any_take 28 (i := 4) (fuel := 5) (v := .slice A n c) rfl rfl (by kernel_rfl) (by kernel_rfl) (by kernel_rfl) (fun _ _ _ h => h) (Or.inl ⟨by rfl, fun w hw => by have := fS w hw; go_simp⟩) hS ?_
      simp only [Act.put, List.setIfInBounds_toArray, List.set_cons_zero, List.set_cons_succ]
      refine any_take 29 (i := 5) (fuel := 4) (v := .int .i64 (n : Int)) rfl rfl (by kernel_rfl) (by kernel_rfl) (by kernel_rfl) (fun _ _ _ h => h) (Or.inl ⟨by rfl, fun w hw => by go_simp⟩) hS ?_
      simp only [Act.put, List.setIfInBounds_toArray, List.set_cons_zero, List.set_cons_succ]
      obtain ⟨i0, hi0, hz0, hz1, hz2⟩ := info_parts byte_parts2
      obtain ⟨wd, hwd⟩ : ∃ w', wr.drew = w' := ⟨_, rfl⟩
      rw [hwd] at hS ⊢
      have hld : Sl wd A n c 1 (u8s l) := hlr.keep hS
      have hrest := hld.drop (i := 64 * j) (by omega)
      rw [show (u8s l).drop (64 * j * 1) = u8s (l.drop (64 * j)) by rw [Nat.mul_one, u8s_drop]] at hrest
      clear hwd
      refine wpAnyH_ready (rs := [3]) (fuel := 3) (by kernel_rfl) (by simp) ?_
      refine AllReadyH.cons rfl (fun K hK => ?_) AllReadyH.nil
      rw [if_pos (by rfl)]
      refine wp_op_append (.const (.slice none 0 0)) (.tmp 26) 27 rfl 27 rfl 5 i0 _ 1 1 Try.underlying27 hi0 hz0 hz1 hz2 rfl (by decide) none 0 0 [] rfl (Own.nil _ _ _) _ (n - 64 * j) (c - 64 * j) _ rfl hrest (u8s_one _) (by simp [maxLen]; omega) (by omega) ?_
      intro A4 c4 w4 hown4 hS4 hat4
      rw [Nat.zero_add, List.nil_append] at hown4
      rw [Nat.zero_add]
      replace hS4 : Step (fun _ => False) wd w4 := hS4.mono fun k _ h => at_nil h
      have hat4' : ∀ k, At A4 k → wd.heap.size ≤ k := fun k hk => (hat4 k hk).resolve_left at_nil
      clear hat4
      refine hK.out _ _ (hS.tr hS4) (fun t4 => ?_)
      clear hK K
      simp only [Act.put, List.setIfInBounds_toArray, List.set_cons_zero, List.set_cons_succ]
      clear hrest
      generalize (if c = 64 * j then A else A.map (·.add (64 * j * 1))) = A26
      refine wpAnyH_ready (rs := [6]) (fuel := 2) (by kernel_rfl) (by simp) ?_
      refine AllReadyH.cons rfl (fun K hK => ?_) AllReadyH.nil
      go_simp
      go_wp2_with (go_at_call 94; refine (tail_code (by omega)).mono ?_; rintro e w5 ⟨A5, k5, c5, rfl, hown5, hat5, hS5⟩)
      refine hK.out _ _ (t4.tr hS5) (fun t5 => ?_)
      clear hK K
      have hk5 : k5 = 9 + zerosN n := by
        have := hown5.sl.n_eq
        rwa [tailM_length] at this
      have hk5b : k5 ≤ 100 := by
        have : zerosN n < 64 := Nat.mod_lt _ (by omega)
        omega
      have Hk5 := Lib.hid hk5
      clear hk5
      refine wpAnyH_ready (rs := [7]) (fuel := 1) (by kernel_rfl) (by simp) ?_
      refine AllReadyH.cons rfl (fun K hK => ?_) AllReadyH.nil
      rw [if_pos (by rfl)]
      refine wp_op_append (.tmp 27) (.tmp 30) 27 rfl 31 rfl 5 i0 _ 1 1 Try.underlying27 hi0 hz0 hz1 hz2 rfl (by decide) A4 (n - 64 * j) c4 _ rfl (hown4.keep hS5) A5 k5 c5 _ rfl hown5.sl (u8s_one _) (by simp [maxLen]; omega) (by omega) ?_
      intro A6 c6 w6 hown6 hS6 hat6
      rw [u8s_append] at hown6
      have hat6' : ∀ k, At A6 k → wr.heap.size ≤ k := fun k hk => by
        have h1 := hS.size
        have h2 := hS4.size
        have h3 := hS5.size
        rcases hat6 k hk with h | h
        · have := hat4' k h; omega
        · omega
      have hS16 : Step (fun _ => False) wr w6 := t5.trans hS6 (fun i hi h => by have := hat4' i h; have h1 := hS.size; omega)
      refine hK.out _ _ hS16 (fun t6 => ?_)
      clear hK K
      simp only [Act.put, List.setIfInBounds_toArray, List.set_cons_zero, List.set_cons_succ]
      refine any_take 5 (i := 8) (fuel := 0) (v := .slice A6 (n - 64 * j + k5) c6) rfl rfl (by kernel_rfl) (by kernel_rfl) (by kernel_rfl) (fun _ _ _ h => h) (Or.inl ⟨by rfl, fun w hw => by go_simp⟩) t6 ?_
      simp only [Act.put, List.setIfInBounds_toArray, List.set_cons_zero, List.set_cons_succ]
      refine wpAnyH_done (by kernel_rfl) ?_ 0
      have hJ6 : J ((blocksM l).take j) w6 := hJ _ _ _ none hJr ⟨t6.os, t6.tape, t6.output, t6.size, fun k hk _ => t6.block k hk id⟩ (fun r e => by cases e)
      obtain ⟨r, hr⟩ : ∃ r, n - 64 * j + k5 = r := ⟨_, rfl⟩
      rw [hr] at hown6 ⊢
      obtain ⟨RL, hRL⟩ : ∃ RL, l.drop (64 * j) ++ tailM n = RL := ⟨_, rfl⟩
      rw [hRL] at hown6
      have hRF : RL = (fullM l).drop (64 * j) := by
        rw [← hRL, fullM, List.drop_append_of_le_length (by have := Hn.out; omega), Hn.out]
      have hrl : r = RL.length := hown6.sl.n_eq
      obtain ⟨q, hq⟩ : ∃ q, r / 64 = q := ⟨_, rfl⟩
      have hr64 : r = 64 * q := by
        have h1 := fullM_mod l
        rw [hRF, List.length_drop] at hrl
        have h2 := fullM_length l
        have h3 := Hn.out
        omega
      have hqF : j + q = (fullM l).length / 64 := by
        have h1 := fullM_mod l
        rw [hRF, List.length_drop] at hrl
        have h2 := fullM_length l
        have h3 := Hn.out
        omega
      have hrb : r ≤ 100000200 := by omega
      have hs6 : Sl w6 A6 r c6 1 (u8s RL) := hown6.sl
      have hK6 : ∀ k, Ft A6 r k → w.heap.size ≤ k := fun k hk => by have := hat6' k hk.2; omega
      have HRF := Lib.hid hRF
      have Hr64 := Lib.hid hr64
      have HqF := Lib.hid hqF
      clear hr hRL hRF hrl hq hr64 hqF hown6 hS6 hat6 hat6' hown5 hown4 hat5 hat4' hS5 hS4 hS16 t4 t5 t6 hS Hk5 hk5b hld
      go_wp2
      go_loopw [6] (fun x wr => ∃ i : Nat, x = .int .i64 (64 * (i : Int)) ∧ i ≤ q ∧ J ((blocksM l).take (j + i)) wr ∧ Sl wr A6 r c6 1 (u8s RL)) (fun x _ => (64 * q - intOf x).toNat)
      case atStart => exact ⟨0, rfl, by omega, by simpa using hJ6, hs6⟩
      case round =>
        obtain ⟨i, rfl, hi, hJr, hlr⟩ := hrel
        by_cases hlt : i < q
        · have hjF : j + i < (fullM l).length / 64 := by have := HqF.out; omega
          have hr64 := Hr64.out
          obtain ⟨b, off, rfl, hbl, hcells⟩ := hlr.pos (by omega)
          have hck : Cells wr b (off + 64 * i) (u8s (chunkM (fullM l) (j + i))) := by
            intro y u hu
            have hy : y < 64 := by
              have := (List.getElem?_eq_some_iff.1 hu).1
              rw [u8s_length, chunkM] at this
              simp at this
              omega
            rw [Nat.add_assoc]
            refine hcells _ u ?_
            rw [HRF.out, ← u8s_drop, List.getElem?_drop]
            rw [chunkM, ← u8s_take, List.getElem?_take_of_lt hy, ← u8s_drop, List.getElem?_drop] at hu
            rw [show 64 * j + (64 * i + y) = 64 * (j + i) + y by omega]
            exact hu
          have hcl : (chunkM (fullM l) (j + i)).length = 64 := chunkM_length (by omega)
          have Hcl := Lib.hid hcl
          have f1 : (0 : Int) ≤ 64 * (i : Int) := by omega
          have f2 : 64 * (i : Int) ≤ (r : Int) := by omega
          have f3 : (64 * (i : Int)).toNat = 64 * i := by omega
          have f4 : 64 * (i : Int) < (r : Int) := by omega
          have f5 : 64 ≤ r - 64 * i := by omega
          have f6 : ¬ c6 = 64 * i := by have := hlr.le; omega
          have hat : ∀ W', (Instr.arrayAt 120 (.slice (some ⟨b, off + 64 * i, none⟩) (r - 64 * i) (c6 - 64 * i))).run Try.prog W' = .ok (.pointer (some ⟨b, off + 64 * i, none⟩)) W' := fun W' => run_arrayAt _ _ _ 64 _ _ _ Try.underlying120 f5
          clear hcl hr64
          go_upto_region 9 with (fail)
          refine (wpIn_wide (n := f)).1 ?_
          obtain ⟨fn, tmps, assign, body, hy, hR⟩ := hY _ (chunk64 (fullM l) (j + i)) wr hJr (by rw [List.length_take, blocksM_length]; omega)
          simp only [arr, chunk64_val (show 64 * (j + i) + 64 ≤ (fullM l).length by omega)] at hy
          gi_wp2_with (refine wi_load rfl 120 _ rfl b (off + 64 * i) rfl (u8s (chunkM (fullM l) (j + i))) _ Try.underlying120 rfl (by rw [block_size3, u8s_length, Hcl.out]) hck ?_)
          refine ⟨fun h => (by cases h), hR.mono ?_⟩
          rintro e W3 (⟨rfl, hJ3, hk3⟩ | ⟨rfl, hJx3⟩)
          · rw [← blocksM_take hjF] at hJ3
            have hl3 := hk3.sl hlr (fun k hk => .inr (.inr (hK6 k hk)))
            gi_wp2
            go_wp2
            exact ⟨⟨i + 1, congrArg (Value.int .i64) (by omega), by omega, hJ3, hl3⟩, by simp only [intOf]; omega⟩
          · rw [← blocksM_take hjF] at hJx3
            gi_wp2
            go_wp2
            refine bodyPost_ret (results_none rfl _ _ _) rfl ?_
            exact ⟨⟨_, rfl⟩, .inr ⟨_, List.take_prefix _ _, hJx3⟩⟩
        · have : i = q := by omega
          subst this
          have f4 : ¬ (64 * (i : Int) < (r : Int)) := by have := Hr64.out; omega
          go_wp2
          (try go_end0)
          rw [List.take_of_length_le (by rw [blocksM_length]; have := HqF.out; omega)] at hJr
          exact ⟨⟨_, rfl⟩, .inl hJr⟩
end Go.Proofs.Ytcmgjoamfjijhaa
