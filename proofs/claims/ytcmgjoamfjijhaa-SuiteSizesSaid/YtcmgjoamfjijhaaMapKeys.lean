/- Kinds of keys. Program independent. -/
import Derived.Test.YtcmgjoamfjijhaaMapOps
import Derived.DeepKeys4
namespace Go.Proofs.Ytcmgjoamfjijhaa
open Go.RowKit Go.Maps
set_option linter.unusedVariables false
set_option linter.unusedSimpArgs false

theorem mapM_some {γ δ : Type} {f : γ → Option δ} : ∀ {l : List γ}, (∀ x ∈ l, ∃ y, f x = some y) → ∃ ys, l.mapM f = some ys
  | [], _ => ⟨[], rfl⟩
  | x :: l, h => by
    obtain ⟨y, hy⟩ := h x (by simp)
    obtain ⟨ys, hys⟩ := mapM_some (l := l) (fun z hz => h z (by simp [hz]))
    exact ⟨y :: ys, by simp [List.mapM_cons, hy, hys]⟩
section
variable {P : Program} {k : TypeId}
/-- A name as a key. -/
abbrev Nm := { l : List UInt8 // l.length ≤ maxLen }
def nmv (x : Nm) : Value := .string (str x.1)
theorem str_inj {a b : List UInt8} (h : str a = str b) : a = b := by rw [← str_data a, h, str_data]
theorem mapkey_str (hk : P.underlying k = some .string) : MapKey P k nmv where
  keyed := string_keyed hk
  lit a := ⟨_, Go.WideMaps.keyOf_string_mk hk (by rw [str_size]; exact a.2)⟩
  inj a b h := Subtype.ext (str_inj (Value.string.inj h))
abbrev U32 := { n : Nat // n < 2 ^ 32 }
def u32v (x : U32) : Value := .int .u32 (x.1 : Int)
theorem wf_u32 (x : U32) : (Lit.int .u32 (x.1 : Int)).wf = true := by
  have := x.2
  simp [Lit.wf, IntKind.min, IntKind.max, IntKind.signed, IntKind.bits]
  omega
theorem mapkey_u32 (hk : P.underlying k = some (.int .u32)) : MapKey P k u32v where
  keyed := int_keyed hk
  lit a := ⟨_, keyOf_int_mk hk (wf_u32 a)⟩
  inj a b h := by
    simp only [u32v, Value.int.injEq, true_and] at h
    exact Subtype.ext (by omega)
def idv (x : Id) : Value := .agg (u8s x.1).toArray
theorem u8s_inj {a b : List UInt8} (h : u8s a = u8s b) : a = b := by
  have : a.map u8v = b.map u8v := h
  refine List.map_inj_right (f := u8v) ?_ |>.1 this
  intro x y e
  simp only [u8v, Value.int.injEq, true_and] at e
  exact UInt8.toNat_inj.1 (by omega)
theorem keyLits_u8 {e : TypeId} (he : P.underlying e = some (.int .u8)) (d : Nat) (x : UInt8) : ∃ ls, P.keyLits (d + 1) e [u8v x] = some ls := by
  have hx : (Lit.int .u8 (x.toNat : Int)).wf = true := by
    have := x.toNat_lt
    simp [Lit.wf, IntKind.min, IntKind.max, IntKind.signed, IntKind.bits]
    omega
  refine ⟨[.int .u8 (x.toNat : Int)], ?_⟩
  simp only [Program.keyLits, he, u8v]
  simp [hx]
theorem keyLits_array {e : TypeId} {n : Nat} (hk : P.underlying k = some (.array n e)) (d : Nat) (cs : List Value) (hlen : cs.length = P.cellsOf k) : P.keyLits (d + 1) k cs = ((List.range n).mapM fun i => P.keyLits d e ((cs.drop (i * P.cellsOf e)).take (P.cellsOf e))).map List.flatten := by
  conv => lhs; unfold Program.keyLits
  simp only [hk, hlen, if_true]
theorem mapkey_id {e : TypeId} (hk : P.underlying k = some (.array 32 e)) (he : P.underlying e = some (.int .u8)) (hl : laidOutB P = true) {m s : Nat} (hm : m + 1 ≤ 10000) (hrow : k < P.types.size) (hkt : P.keyTypeAt m k = true) (hkt2 : P.keyType k = true) (hs : P.types.size = s + 1) (hc : P.cellsOf k = 32) (hc2 : P.cellsOf e = 1) : MapKey P k idv where
  keyed := Keyed.of_law (deep_law_laid hl hm hrow hkt (by rw [hk]))
  lit a := by
    have hlen : (u8s a.1).length = 32 := by rw [u8s_length, a.2]
    have hf : (idv a).formed P k = true := by simp [Value.formed, idv, hk, hc, hlen]
    have hls : ∃ ls, P.keyLits (P.types.size + 1) k (idv a).cells.toList = some ls := by
      have hcell : (idv a).cells.toList = u8s a.1 := by simp [idv, Value.cells]
      rw [hs, hcell, keyLits_array hk _ _ (by rw [hlen, hc]), hc2]
      obtain ⟨ys, hys⟩ := mapM_some (f := fun i => P.keyLits (s + 1) e (((u8s a.1).drop (i * 1)).take 1)) (l := List.range 32) (fun i hi => by
        have hi2 : i < 32 := List.mem_range.1 hi
        have hia : i < a.1.length := by rw [a.2]; exact hi2
        have : ((u8s a.1).drop (i * 1)).take 1 = [u8v a.1[i]] := by
          rw [Nat.mul_one, u8s_drop, u8s_take, List.drop_eq_getElem_cons hia]
          rfl
        rw [this]
        exact keyLits_u8 he s _)
      exact ⟨_, by rw [hys]; rfl⟩
    obtain ⟨ls, hls⟩ := hls
    refine ⟨.string (keyBytes ls), ?_⟩
    rw [keyOf, hk]
    simp only [hkt2, hf, Bool.and_self, if_true, hls, Option.map_some]
  inj a b h := by
    have : u8s a.1 = u8s b.1 := by
      have := Value.agg.inj h
      simpa using congrArg Array.toList this
    exact Subtype.ext (u8s_inj this)
/-- A pair of numbers as a key. -/
def u32v2 (x : U32 × U32) : Value := .agg #[u32v x.1, u32v x.2]
theorem keyLits_u32 {e : TypeId} (he : P.underlying e = some (.int .u32)) (d : Nat) (x : U32) : P.keyLits (d + 1) e [u32v x] = some [.int .u32 (x.1 : Int)] := by
  simp only [Program.keyLits, he, u32v]
  simp [wf_u32 x]
theorem keyLits_pair {f g : Field} (hk : P.underlying k = some (.struct #[f, g])) (hfn : (f.name != "_") = true) (hgn : (g.name != "_") = true) (d : Nat) (cs : List Value) (hlen : cs.length = P.cellsOf k) : P.keyLits (d + 1) k cs = ([f, g].mapM fun f => P.keyLits d f.type ((cs.drop f.offset).take (P.cellsOf f.type))).map List.flatten := by
  conv => lhs; unfold Program.keyLits
  have ha : (#[f, g].all fun x => x.name != "_") = true := by simp [Array.all, hfn, hgn]
  simp only [hk, hlen, ha, and_self, if_true]
theorem mapkey_pair {f g : Field} (hk : P.underlying k = some (.struct #[f, g])) (hf1 : P.underlying f.type = some (.int .u32)) (hg1 : P.underlying g.type = some (.int .u32)) (hfo : f.offset = 0) (hgo : g.offset = 1) (hfc : P.cellsOf f.type = 1) (hgc : P.cellsOf g.type = 1) (hfn : f.name ≠ "_") (hgn : g.name ≠ "_")
    (hl : laidOutB P = true) {m s : Nat} (hm : m + 1 ≤ 10000) (hrow : k < P.types.size) (hkt : P.keyTypeAt m k = true) (hkt2 : P.keyType k = true) (hs : P.types.size = s + 1) (hc : P.cellsOf k = 2) : MapKey P k u32v2 where
  keyed := Keyed.of_law (deep_law_laid hl hm hrow hkt (by rw [hk]))
  lit a := by
    obtain ⟨x, y⟩ := a
    have hf : (u32v2 (x, y)).formed P k = true := by simp [Value.formed, u32v2, hk, hc]
    have hls : ∃ ls, P.keyLits (P.types.size + 1) k (u32v2 (x, y)).cells.toList = some ls := by
      have hcell : (u32v2 (x, y)).cells.toList = [u32v x, u32v y] := by simp [u32v2, Value.cells]
      rw [hs, hcell]
      have e1 := keyLits_u32 (P := P) hf1 s x
      have e2 := keyLits_u32 (P := P) hg1 s y
      rw [keyLits_pair hk (by simp [hfn]) (by simp [hgn]) _ _ (by simp [hc])]
      simp [hfo, hgo, hfc, hgc, e1, e2]
    obtain ⟨ls, hls⟩ := hls
    refine ⟨.string (keyBytes ls), ?_⟩
    rw [keyOf, hk]
    simp only [hkt2, hf, Bool.and_self, if_true, hls, Option.map_some]
  inj a b h := by
    obtain ⟨x, y⟩ := a
    obtain ⟨x2, y2⟩ := b
    have := Value.agg.inj h
    simp only [u32v2, u32v, Array.mk.injEq, List.cons.injEq, Value.int.injEq, true_and, and_true] at this
    obtain ⟨e1, e2⟩ := this
    exact Prod.ext (Subtype.ext (Int.ofNat.inj e1)) (Subtype.ext (Int.ofNat.inj e2))
end
end Go.Proofs.Ytcmgjoamfjijhaa
