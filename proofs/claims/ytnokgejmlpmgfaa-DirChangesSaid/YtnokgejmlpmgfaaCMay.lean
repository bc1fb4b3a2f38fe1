/- Which envelopes may be put. -/
import Derived.Test.YtnokgejmlpmgfaaCNeigh
namespace Go.Proofs.Ytnokgejmlpmgfaa
open Go.RowKit
attribute [local go_sem] Oper.semAt_some

theorem cmp_less : ∀ a b : List UInt8, (0 ≤ Lib.compareBytes a b) ↔ lessM a b = false
  | [], [] => by simp [Lib.compareBytes, lessM, Op.bytesLess]
  | [], _ :: _ => by simp [Lib.compareBytes, lessM, Op.bytesLess]
  | _ :: _, [] => by simp [Lib.compareBytes, lessM, Op.bytesLess]
  | x :: a, y :: b => by
    have ih := cmp_less a b
    simp only [lessM] at ih
    simp only [Lib.compareBytes, lessM, Op.bytesLess]
    by_cases h1 : x < y
    · simp [h1]
    · by_cases h2 : y < x
      · have hne : (x == y) = false := by
          rw [beq_eq_false_iff_ne]
          intro e
          subst e
          exact UInt8.lt_irrefl _ h2
        simp [h1, h2, hne]
      · have hxy : x = y := UInt8.le_antisymm (UInt8.not_lt.1 h2) (UInt8.not_lt.1 h1)
        subst hxy
        simp [ih]

/-- Each less than the next. -/
def risingM (l : List Id) : Bool := (pairsM l).all fun p => lessM p.1.1 p.2.1

/-- An envelope. -/
structure Env where
  kind : Int
  realm : Nat
  epoch : Nat
  links : List Id
  body : List UInt8

def mayM (e : Env) : Bool := decide (1 ≤ e.kind) && decide (e.kind ≤ 3) && decide (e.links.length ≤ 1000) && decide (e.body.length ≤ 70000) && risingM e.links

/-- The envelope e, as it lies. -/
structure EnvIs (w : World) (e : Env) (A : Option Addr) (n c : Nat) (B : Option Addr) (m d : Nat) : Prop where
  links : Sl w A n c 32 (e.links.flatMap idc)
  body : Sl w B m d 1 (u8s e.body)
  kind : (Lit.int .i64 e.kind).wf = true
  realm : e.realm < 2 ^ 32
  epoch : e.epoch < 2 ^ 32
theorem EnvIs.keep {w w' : World} {e : Env} {A B : Option Addr} {n c m d : Nat} (h : EnvIs w e A n c B m d) (hs : Step (fun _ => False) w w') : EnvIs w' e A n c B m d := ⟨h.links.keep hs, h.body.keep hs, h.kind, h.realm, h.epoch⟩
theorem EnvIs.n_eq {w : World} {e : Env} {A B : Option Addr} {n c m d : Nat} (h : EnvIs w e A n c B m d) : n = e.links.length := h.links.n_flat idc_length (by omega)
theorem EnvIs.m_eq {w : World} {e : Env} {A B : Option Addr} {n c m d : Nat} (h : EnvIs w e A n c B m d) : m = e.body.length := h.body.n_eq

theorem bool_size : (Try.prog.info? 4).map (·.size) = some 1 := by kernel_rfl

/-- What the loop over neighbours keeps. -/
def MayRel (w : World) (pre : List (Id × Id)) (W : World) : Prop :=
  (pre.all fun p => lessM p.1.1 p.2.1) = true ∧ (∃ v, Blk W (w.heap.size + 1) 4 #[v]) ∧ Step (fun _ => False) w W
def MayOut (w : World) (c : Code) (pre : List (Id × Id)) (W : World) : Prop :=
  c = .ret ∧ (pre.all fun p => lessM p.1.1 p.2.1) = false ∧ Blk W (w.heap.size + 1) 4 #[.bool false] ∧ Step (fun _ => False) w W
/-- What the assignment leaves: the two loop variables lie in blocks. -/
def MayAx (t : Array Value) (x : Id × Id) (a : Act) (W : World) : Prop :=
  ∃ b1 b2, a = { tmps := [(28, .agg (idc x.1).toArray), (29, .agg (idc x.2).toArray), (3, .pointer (some ⟨b1, 0, none⟩)), (4, .pointer (some ⟨b2, 0, none⟩))].foldl (fun (t : Array Value) (p : Nat × Value) => t.setIfInBounds p.1 p.2) t, defers := [] } ∧ Blk W b1 85 (idc x.1).toArray ∧ Blk W b2 85 (idc x.2).toArray

set_option maxRecDepth 100000 in
set_option maxHeartbeats 1000000 in
theorem may_code {w : World} {e : Env} {A B : Option Addr} {n c m d : Nat} (he : EnvIs w e A n c B m d) (hn : n ≤ 1000000000) :
    Calls Try.prog 75 #[.agg #[.int .i64 e.kind, .int .u32 e.realm, .int .u32 e.epoch, .slice A n c, .slice B m d]] w fun r w' => r = .returned (.bool (mayM e)) ∧ Step (fun _ => False) w w' := by
  have Hn := Lib.hid he.n_eq
  have Hm := Lib.hid he.m_eq
  have hl := he.links
  obtain ⟨kind, hkind⟩ : ∃ k, e.kind = k := ⟨_, rfl⟩
  obtain ⟨realm, hrealm⟩ : ∃ k, e.realm = k := ⟨_, rfl⟩
  obtain ⟨epoch, hepoch⟩ : ∃ k, e.epoch = k := ⟨_, rfl⟩
  rw [hkind, hrealm, hepoch]
  have Hkind := Lib.hid hkind
  clear hkind hrealm hepoch he
  refine callsIn_wide.1 (callsIn_of_wp_marks (F := Fence.wide) (n := 3) Try.func75 rfl trivial ?_ rfl)
  simp only [Try.ntmps75, List.size_toArray, List.length_cons, List.length_nil, Nat.reduceAdd, Nat.reduceSub, Array.replicate_succ, Array.replicate_zero, List.push_toArray, List.append_toArray, List.nil_append, List.cons_append]
  refine wpIn_wide.2 ?_
  by_cases hbad : kind < 1 ∨ 3 < kind ∨ 1000 < n ∨ 70000 < m
  · have hmay : mayM e = false := by
      have h1 := Hn.out
      have h2 := Hm.out
      have h3 := Hkind.out
      rcases hbad with h | h | h | h
      · have : ¬ 1 ≤ e.kind := by omega
        simp [mayM, this]
      · have : ¬ e.kind ≤ 3 := by omega
        simp [mayM, this]
      · have : ¬ e.links.length ≤ 1000 := by omega
        simp [mayM, this]
      · have : ¬ e.body.length ≤ 70000 := by omega
        simp [mayM, this]
    rw [hmay]
    go_wp2
    go_ways
    all_goals
      have hb2 : Blk ((w.alloc (.cells #[.int .i64 kind, .int .u32 realm, .int .u32 epoch, .slice A n c, .slice B m d] 72)).alloc (.cells #[.bool false] 4)) (w.heap.size + 1) 4 #[.bool false] := by
        have := Blk.new (w.alloc (.cells #[.int .i64 kind, .int .u32 realm, .int .u32 epoch, .slice A n c, .slice B m d] 72)) 4 #[.bool false]
        rwa [World.size_alloc] at this
      exact ret_plain (res_cell1 rfl rfl (load_one Try.underlying4 rfl (hb2.cell 0))) rfl ⟨rfl, ((Step.refl _ _).alloc _).alloc _⟩
  · have hk1 : ¬ kind < 1 := fun h => hbad (.inl h)
    have hk2 : ¬ 3 < kind := fun h => hbad (.inr (.inl h))
    have hk3 : ¬ 1000 < n := fun h => hbad (.inr (.inr (.inl h)))
    have hk4 : ¬ 70000 < m := fun h => hbad (.inr (.inr (.inr h)))
    have hmay : mayM e = risingM e.links := by
      have h1 := Hn.out
      have h2 := Hm.out
      have h3 := Hkind.out
      have e1 : 1 ≤ e.kind := by omega
      have e2 : e.kind ≤ 3 := by omega
      have e3 : e.links.length ≤ 1000 := by omega
      have e4 : e.body.length ≤ 70000 := by omega
      simp [mayM, e1, e2, e3, e4]
    rw [hmay]
    clear hmay hbad
    obtain ⟨w2, hw2⟩ : ∃ w2, (w.alloc (.cells #[.int .i64 kind, .int .u32 realm, .int .u32 epoch, .slice A n c, .slice B m d] 72)).alloc (.cells #[.bool false] 4) = w2 := ⟨_, rfl⟩
    have hb2 : Blk w2 (w.heap.size + 1) 4 #[.bool false] := by
      subst hw2
      have := Blk.new (w.alloc (.cells #[.int .i64 kind, .int .u32 realm, .int .u32 epoch, .slice A n c, .slice B m d] 72)) 4 #[.bool false]
      rwa [World.size_alloc] at this
    have hS2 : Step (fun _ => False) w w2 := by subst hw2; exact ((Step.refl _ _).alloc _).alloc _
    have hz2 : w2.heap.size = w.heap.size + 2 := by subst hw2; simp
    have Hw2 := Lib.hid hw2
    clear hw2
    go_wp2_with (go_at_call 106; refine neigh_make.mono ?_; rintro r w3 ⟨rfl, hc3, hS3, hz3⟩; rw [Hw2.out] at hc3 hS3 hz3; rw [hz2] at hc3 hz3)
    have hS23 : Step (fun _ => False) w w3 := hS2.tr hS3
    refine wp_range_ax rfl (enters_of Try.func135 (by kernel_rfl) rfl) (neigh_tells (Bn := w.heap.size + 2) hc3 (hl.keep hS23) hn) (fun _ => rfl)
      (MayRel w) (MayOut w) ?hI ?hIx ?h0 MayAx ?hAx ?assign ?body ?done ?stop
    case hI =>
      rintro pre W1 W2 ⟨h1, ⟨v, h2⟩, h3⟩ hL
      exact ⟨h1, ⟨v, hL.blk h2⟩, hL.step h3 hS23.size⟩
    case hIx =>
      rintro cc pre W1 W2 ⟨h1, h2, h3, h4⟩ hL
      exact ⟨h1, h2, hL.blk h3, hL.step h4 hS23.size⟩
    case h0 => exact ⟨rfl, ⟨_, hb2.step hS3 id⟩, hS23⟩
    case hAx =>
      rintro x a' W1 W2 ⟨b1, b2, h1, h4, h5⟩ hL
      exact ⟨b1, b2, h1, hL.blk h4, hL.blk h5⟩
    case assign =>
      rintro l pre x W M ⟨h1, ⟨v, h2⟩, h3⟩ hK
      rw [zip2]
      simp only [List.setIfInBounds_toArray, List.set_cons_succ, List.set_cons_zero]
      gi_wp2_with (first
        | (refine wi_alloc rfl 85 rfl _ id_zero ?_; intro w4 hb4 hS4)
        | (refine wi_store_all rfl 85 _ _ rfl W.heap.size rfl (idc x.1) rfl (by rw [id_size, idc_length]) (idc_one _) 85 _ hb4 (by rw [arr_size, zeros_length, idc_length]) ?_; intro w5 hb5 hS5; have hS15 : Step (fun _ => False) W w5 := hS4.trans hS5 (fun i hi e => by omega); clear hb4 hS4 hS5)
        | (refine wi_store_all rfl 85 _ _ rfl w5.heap.size rfl (idc x.2) rfl (by rw [id_size, idc_length]) (idc_one _) 85 _ hb4 (by rw [arr_size, zeros_length, idc_length]) ?_; intro w7 hb7 hS7))
      have hw15 := hS15.size
      have hS47 : Step (fun k => k = w5.heap.size) w5 w7 := (hS4.mono (T := fun k => k = w5.heap.size) (fun _ _ h => h.elim)).tr hS7
      have hSW : Step (fun _ => False) W w7 := hS15.trans hS47 (fun i hi e => by omega)
      refine hK _ _ (hSW.keepsFrom (fun _ _ h => h.elim)) (hSW.keeps (fun _ _ h => h)) ⟨h1, ⟨v, h2.step hSW id⟩, h3.tr hSW⟩ ⟨W.heap.size, w5.heap.size, rfl, hb5.step hS47 (by have := hb5.lt; omega), hb7⟩
    case body =>
      rintro l pre x a' W ⟨h1, ⟨v, h2⟩, h3⟩ ⟨b1, b2, rfl, hb1, hb2'⟩ hlen
      simp only [List.foldl_cons, List.foldl_nil, List.setIfInBounds_toArray, List.set_cons_succ, List.set_cons_zero]
      by_cases hless : lessM x.1.1 x.2.1 = true
      · have hcmp : ¬ 0 ≤ Lib.compareBytes x.1.1 x.2.1 := fun h => by rw [(cmp_less _ _).1 h] at hless; cases hless
        gi_wp2_with (first
          | (refine wi_load rfl 85 _ rfl b1 0 rfl (idc x.1) _ Try.underlying85 rfl (by rw [id_size, idc_length]) hb1.cells ?_)
          | (refine wi_load rfl 85 _ rfl b2 0 rfl (idc x.2) _ Try.underlying85 rfl (by rw [id_size, idc_length]) hb2'.cells ?_)
          | (refine ⟨trivial, ?_⟩; gi_at_call 59; refine (CallsIn.inRound l (callsIn_wide.2 order_code)).mono ?_; rintro r w6 ⟨rfl, hS6⟩))
        exact ⟨hS6.keepsFrom (fun _ _ h => h.elim), hS6.keeps (fun _ _ h => h), by rw [List.all_append, h1]; simp [hless], ⟨v, h2.step hS6 id⟩, h3.tr hS6⟩
      · have hless' : lessM x.1.1 x.2.1 = false := by simpa using hless
        have hcmp : 0 ≤ Lib.compareBytes x.1.1 x.2.1 := (cmp_less _ _).2 hless'
        gi_wp2_with (first
          | (refine wi_load rfl 85 _ rfl b1 0 rfl (idc x.1) _ Try.underlying85 rfl (by rw [id_size, idc_length]) hb1.cells ?_)
          | (refine wi_load rfl 85 _ rfl b2 0 rfl (idc x.2) _ Try.underlying85 rfl (by rw [id_size, idc_length]) hb2'.cells ?_)
          | (refine ⟨trivial, ?_⟩; gi_at_call 59; refine (CallsIn.inRound l (callsIn_wide.2 order_code)).mono ?_; rintro r w6 ⟨rfl, hS6⟩)
          | (refine wi_put _ rfl 4 _ _ rfl (w.heap.size + 1) 0 rfl (.bool false) rfl rfl rfl bool_size 4 #[v] (h2.step hS6 id) (by simp) ?_; intro w7 hb7 hS7))
        have hS67 : Step (fun k => k = w.heap.size + 1) W w7 := (hS6.mono (T := fun k => k = w.heap.size + 1) (fun _ _ h => h.elim)).tr hS7
        exact ⟨hS67.keepsFrom (fun k o hk ho => by subst hk; exact h2.isCells ho), rfl, by rw [List.all_append]; simp [hless'], hb7, h3.trans hS67 (fun i hi e => by omega)⟩
    case done =>
      rintro D W hD ⟨h1, ⟨v, h2⟩, h3⟩ hK
      go_wp2_with (refine wl_put _ rfl 4 _ _ rfl (w.heap.size + 1) 0 rfl (.bool true) rfl rfl rfl bool_size 4 #[v] h2 (by simp) ?_; intro W2 hr2 hS2')
      have hK' : W2.heap[D]? = some (.deferred (some [])) := by
        rw [hS2'.block D (Array.getElem?_eq_some_iff.1 hK).1 (by omega)]
        exact hK
      have hL := loose_put (B := w.heap.size) (.deferred none) (by omega) hK' rfl
      refine ret_mark hK' rfl (res_cell1 rfl rfl (load_one Try.underlying4 rfl ((hL.blk hr2).cell 0))) ⟨?_, hL.step (h3.trans hS2' (fun i hi e => by omega)) (Nat.le_refl _)⟩
      exact congrArg (fun b => Ending.returned (.bool b)) h1.symm
    case stop =>
      rintro D cc pre W hD hp ⟨rfl, h1, h2, h3⟩ hK
      go_wp2
      have hL := loose_put (B := w.heap.size) (.deferred none) (by omega) hK rfl
      refine ret_mark hK rfl (res_cell1 rfl rfl (load_one Try.underlying4 rfl ((hL.blk h2).cell 0))) ⟨?_, hL.step h3 (Nat.le_refl _)⟩
      refine congrArg (fun b => Ending.returned (.bool b)) (?_ : false = risingM e.links)
      obtain ⟨t, ht⟩ := hp
      rw [risingM, ← ht, List.all_append, h1]
      rfl
end Go.Proofs.Ytnokgejmlpmgfaa
