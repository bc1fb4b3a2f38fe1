/- Envelopes as bytes. -/
import Derived.Test.YtjnaiicgincndaaCMay
import Derived.Test.YtjnaiicgincndaaCWriter
namespace Go.Proofs.Ytjnaiicgincndaa
open Go.RowKit

def adB (e : Env) : List UInt8 := nM e.kind.toNat ++ nM e.realm ++ nM e.epoch ++ nM e.links.length ++ idsB e.links
def putB (e : Env) : List UInt8 := adB e ++ nM e.body.length ++ e.body

theorem writer_new (w : World) : WrIs (w.alloc (.cells #[.slice none 0 0] 99)) (fun k => k = w.heap.size) w.heap.size [] :=
  ⟨rfl, fun k hk => by subst hk; simp, none, 0, 0, Blk.new _ _ _, Own.nil _ _ _, fun k hk => (at_nil hk).elim⟩

theorem sl_many (W : World) (t : TypeId) (xs : List Value) {n : Nat} (hn : xs.length = n) (hm : n ≤ maxLen) : Sl (W.alloc (.cells xs.toArray t)) (some ⟨W.heap.size, 0, none⟩) n n 1 xs := (Blk.new W t xs.toArray).sl_ hn hm

theorem env_links_len {w : World} {e : Env} {A B : Option Addr} {n c m d : Nat} (he : EnvIs w e A n c B m d) : e.links.length = n := he.n_eq.symm

set_option maxRecDepth 100000 in
theorem ahead_code {w : World} {e : Env} {A B : Option Addr} {n c m d : Nat} (he : EnvIs w e A n c B m d) (hk0 : 0 ≤ e.kind) (hn : n ≤ 1000) :
    Calls Try.prog 75 #[.agg #[.int .i64 e.kind, .int .u32 e.realm, .int .u32 e.epoch, .slice A n c, .slice B m d]] w fun r w' => ∃ g F, r = .returned (.pointer (some ⟨g, 0, none⟩)) ∧ WrIs w' F g (adB e) ∧ Step (fun _ => False) w w' ∧ (∀ k, F k → w.heap.size ≤ k) := by
  have Hn := Lib.hid he.n_eq
  have hl := he.links
  have hr := he.realm
  have hp := he.epoch
  have hkw : e.kind < 2 ^ 63 := by have := he.kind; simp [Lit.wf] at this; have := this.2; omega
  have hnums : u64s [e.kind.toNat, e.realm, e.epoch] = [.int .u64 e.kind, .int .u64 e.realm, .int .u64 e.epoch] := by
    simp only [u64s, List.map_cons, List.map_nil]
    rw [Int.toNat_of_nonneg hk0]
  have hft : ∀ k, Ft A n k → k < w.heap.size := fun k hk => hl.ft_lt (by omega) hk
  have hnums3 : ∀ W : World, Sl (W.alloc (.cells #[.int .u64 e.kind, .int .u64 e.realm, .int .u64 e.epoch] 28)) (some ⟨W.heap.size, 0, none⟩) 3 3 1 (u64s [e.kind.toNat, e.realm, e.epoch]) := fun W => by
    rw [hnums]
    exact sl_many W _ [.int .u64 e.kind, .int .u64 e.realm, .int .u64 e.epoch] rfl (by decide)
  clear hnums
  have h64 : ∀ x ∈ [e.kind.toNat, e.realm, e.epoch], x < 2 ^ 64 := by
    intro x hx
    simp at hx
    rcases hx with rfl | rfl | rfl <;> omega
  have hl30 : (List.flatMap nM [e.kind.toNat, e.realm, e.epoch]).length ≤ 30 := flat_len h64
  go_enter Try.func75, Try.ntmps75
  go_wp2_with (first
    | (refine wl_box rfl 48 (.tmp 0) rfl (.agg #[.int .i64 e.kind, .int .u32 e.realm, .int .u32 e.epoch, .slice A n c, .slice B m d]) rfl ?_; intro w1 hb1 hS1 hz1; replace hb1 : Blk w1 w.heap.size 48 #[.int .i64 e.kind, .int .u32 e.realm, .int .u32 e.epoch, .slice A n c, .slice B m d] := hb1; have hgz : w.heap.size < w1.heap.size := (by omega); clear hz1; have d0 : w1.cell? ⟨w.heap.size, 0, none⟩ = some (.int .i64 e.kind) := hb1.cell 0; have d1 : w1.cell? ⟨w.heap.size, 1, none⟩ = some (.int .u32 e.realm) := hb1.cell 1; have d2 : w1.cell? ⟨w.heap.size, 2, none⟩ = some (.int .u32 e.epoch) := hb1.cell 2; have d3 : w1.cell? ⟨w.heap.size, 3, none⟩ = some (.slice A n c) := hb1.cell 3; have d4 : w1.cell? ⟨w.heap.size, 4, none⟩ = some (.slice B m d) := hb1.cell 4; have hW1 := writer_new w1; have hN := hnums3 (w1.alloc (.cells #[.slice none 0 0] 99)); rw [World.size_alloc] at hN)
    | (go_at_call 66; refine (wr_n (q := []) (l := [e.kind.toNat, e.realm, e.epoch]) (hW1.keep ((Step.refl _ _).alloc _)) hN (fun k hk h => by (obtain ⟨_, a, e, rfl⟩ := hk; cases e; simp at h)) h64 (by simp)).mono ?_; rintro r w4 ⟨⟨v4, rfl⟩, F4, hW4, hS4, hF4⟩; have c4 : w4.cell? ⟨w.heap.size, 3, none⟩ = some (.slice A n c) := ((((hb1.alloc _).alloc _).step hS4 (by omega)).cell 3))
    | (go_at_call 64; refine (wr_ids hW4 (((((hl.keep hS1).alloc _).alloc _).step hS4 (fun k hk h => by have := hft k hk; omega))) (fun k hk h => by (have h1 := hft k hk; rcases hF4 k h with h2 | h2; omega; simp at h2; omega)) (by rw [List.nil_append]; omega) (by omega)).mono ?_; rintro r w5 ⟨⟨v5, rfl⟩, F5, hW5, hS5, hF5⟩))
  go_ret
  have hz4 := hS4.size
  simp at hz4
  have h14 : Step (fun k => k = w1.heap.size) w1 w4 := ((((Step.refl _ _).alloc _).alloc _).trans hS4 (fun _ _ h => h))
  have hF4' : ∀ k, F4 k → w1.heap.size ≤ k := fun k hk => by
    rcases hF4 k hk with h | h
    · omega
    · simp at h; omega
  refine ⟨w1.heap.size, F5, rfl, ?_, ?_, fun k hk => ?_⟩
  · rw [List.nil_append] at hW5
    have e1 : adB e = List.flatMap nM [e.kind.toNat, e.realm, e.epoch] ++ nM e.links.length ++ idsB e.links := by simp [adB]
    rw [e1]
    exact hW5
  · exact hS1.trans (h14.trans hS5 (fun i hi h => by have := hF4' i h; omega)) (fun i hi h => by omega)
  · rcases hF5 k hk with h | h
    · have := hF4' k h; omega
    · omega

theorem env_size : (Try.prog.info? 48).map (·.size) = some 5 := by kernel_rfl

theorem adB_len {w : World} {e : Env} {A B : Option Addr} {n c m d : Nat} (he : EnvIs w e A n c B m d) (hk0 : 0 ≤ e.kind) (hn : n ≤ 1000) : (adB e).length ≤ 40 + 32000 := by
  have hkw : e.kind < 2 ^ 63 := by have := he.kind; simp [Lit.wf] at this; have := this.2; omega
  have h1 := nM_ten (n := e.kind.toNat) (by omega)
  have h2 := nM_ten (n := e.realm) (by have := he.realm; omega)
  have h3 := nM_ten (n := e.epoch) (by have := he.epoch; omega)
  have h4 := nM_ten (n := e.links.length) (by have := he.n_eq; omega)
  have h5 := idsB_length e.links
  have h6 := he.n_eq
  simp only [adB, List.length_append]
  omega

set_option maxRecDepth 100000 in
theorem put_code {w : World} {e : Env} {A B : Option Addr} {n c m d : Nat} (he : EnvIs w e A n c B m d) (hn : n ≤ 1000000) (hm : m ≤ 1000000) :
    Calls Try.prog 28 #[.agg #[.int .i64 e.kind, .int .u32 e.realm, .int .u32 e.epoch, .slice A n c, .slice B m d]] w fun r w' => ∃ A' n' c', r = .returned (.tuple #[.slice A' n' c', .int .i64 (if mayM e then 0 else 90)]) ∧ Sl w' A' n' c' 1 (u8s (if mayM e then putB e else [])) ∧ Step (fun _ => False) w w' ∧ (∀ k, At A' k → w.heap.size ≤ k) := by
  have hft : ∀ k, Ft B m k → k < w.heap.size := fun k hk => he.body.ft_lt (by omega) hk
  have Hm := Lib.hid he.m_eq
  by_cases hmay : mayM e = true
  · have hmay' := hmay
    simp only [mayM, Bool.and_eq_true, decide_eq_true_eq] at hmay'
    obtain ⟨⟨⟨⟨hk1, hk2⟩, hk3⟩, hk4⟩, _⟩ := hmay'
    have hn' : n ≤ 1000 := by have := he.n_eq; omega
    have hlen := adB_len he (by omega) hn'
    rw [if_pos hmay, if_pos hmay]
    have Hmay := Lib.hid hmay
    clear hmay
    go_enter Try.func28, Try.ntmps28
    go_wp2_with (first
      | (refine wl_box rfl 48 (.tmp 0) rfl (.agg #[.int .i64 e.kind, .int .u32 e.realm, .int .u32 e.epoch, .slice A n c, .slice B m d]) rfl ?_; intro w1 hb1 hS1 hz1; replace hb1 : Blk w1 w.heap.size 48 #[.int .i64 e.kind, .int .u32 e.realm, .int .u32 e.epoch, .slice A n c, .slice B m d] := hb1; have hgz : w.heap.size < w1.heap.size := (by omega); clear hz1)
      | (refine wl_load rfl 48 _ rfl w.heap.size 0 rfl [.int .i64 e.kind, .int .u32 e.realm, .int .u32 e.epoch, .slice A n c, .slice B m d] _ Try.underlying48 rfl env_size hb1.cells ?_)
      | (go_at_call 73; refine (may_code (he.keep hS1) (by omega)).mono ?_; rintro r w2 ⟨rfl, hS2⟩; rw [Hmay.out])
      | (refine wl_load rfl 48 _ rfl w.heap.size 0 rfl [.int .i64 e.kind, .int .u32 e.realm, .int .u32 e.epoch, .slice A n c, .slice B m d] _ Try.underlying48 rfl env_size (hb1.step hS2 id).cells ?_)
      | (go_at_call 75; refine (ahead_code ((he.keep hS1).keep hS2) (by omega) hn').mono ?_; rintro r w3 ⟨g, F, rfl, hW3, hS3, hF3⟩; have c4 : w3.cell? ⟨w.heap.size, 4, none⟩ = some (.slice B m d) := ((hb1.step hS2 id).step hS3 id).cell 4; have hsz2 := hS2.size)
      | (go_at_call 67; refine (wr_text (hW3.keep ((Step.refl _ _).alloc _)) (sl_one _ _ _) (fun k hk h => by (have := hW3.lt k h; obtain ⟨_, a, e, rfl⟩ := hk; cases e; simp at this)) ((((he.body.keep hS1).keep hS2).keep hS3).alloc _) (fun k hk h => by (have h1 := hft k hk; have h2 := hF3 k h; omega)) (by (have := Hm.out; omega))).mono ?_; rintro r w4 ⟨⟨v4, rfl⟩, F4, hW4, hS4, hF4⟩)
      | (go_at_call 68; refine (wr_bytes hW4 (by (have := Hm.out; have := nM_ten (n := e.body.length) (by omega); simp; omega))).mono ?_; rintro r w5 ⟨A5, n5, c5, rfl, hown5, hS5, hA5⟩))
    go_ret2
    have hz2 := hS2.size
    have hz3 := hS3.size
    have hz4 := hS4.size
    simp at hz4
    have h34 : Step F w3 w4 := ((Step.refl _ _).alloc _).trans hS4 (fun _ _ h => h)
    refine ⟨A5, n5, c5, rfl, hown5.sl, (((hS1.tr hS2).tr hS3).trans h34 (fun i hi h => by have := hF3 i h; omega)).tr hS5, fun k hk => ?_⟩
    have := hA5 k hk
    omega
  · have hmay' : mayM e = false := by simpa using hmay
    rw [if_neg hmay, if_neg hmay]
    have Hmay := Lib.hid hmay'
    clear hmay hmay'
    go_enter Try.func28, Try.ntmps28
    go_wp2_with (first
      | (refine wl_box rfl 48 (.tmp 0) rfl (.agg #[.int .i64 e.kind, .int .u32 e.realm, .int .u32 e.epoch, .slice A n c, .slice B m d]) rfl ?_; intro w1 hb1 hS1 hz1; replace hb1 : Blk w1 w.heap.size 48 #[.int .i64 e.kind, .int .u32 e.realm, .int .u32 e.epoch, .slice A n c, .slice B m d] := hb1; have hgz : w.heap.size < w1.heap.size := (by omega); clear hz1)
      | (refine wl_load rfl 48 _ rfl w.heap.size 0 rfl [.int .i64 e.kind, .int .u32 e.realm, .int .u32 e.epoch, .slice A n c, .slice B m d] _ Try.underlying48 rfl env_size hb1.cells ?_)
      | (go_at_call 73; refine (may_code (he.keep hS1) (by omega)).mono ?_; rintro r w2 ⟨rfl, hS2⟩; rw [Hmay.out]))
    go_ret2
    exact ⟨none, 0, 0, rfl, Sl.nil _ _, hS1.tr hS2, fun k hk => (at_nil hk).elim⟩
end Go.Proofs.Ytjnaiicgincndaa
