/- Structs as keys. Program independent. -/
import Derived.Test.YtcmgjoamfjijhaaMapKeys
namespace Go.Proofs.Ytcmgjoamfjijhaa
open Go.RowKit Go.Maps
set_option linter.unusedVariables false
set_option linter.unusedSimpArgs false

section
variable {P : Program} {k : TypeId}
theorem keyLits_nm {e : TypeId} (he : P.underlying e = some .string) (d : Nat) (x : Nm) : ∃ ls, P.keyLits (d + 1) e [.string (str x.1)] = some ls := by
  have hx := x.2
  refine ⟨[.string (str x.1).data.toList], ?_⟩
  simp only [Program.keyLits, he]
  simp [str_size, hx]
theorem keyLits_i64 {e : TypeId} (he : P.underlying e = some (.int .i64)) (d : Nat) (x : Nat) (hx : x < 2 ^ 63) : ∃ ls, P.keyLits (d + 1) e [.int .i64 (x : Int)] = some ls := by
  have hw : (Lit.int .i64 (x : Int)).wf = true := by
    simp [Lit.wf, IntKind.min, IntKind.max, IntKind.signed, IntKind.bits]
    omega
  refine ⟨[.int .i64 (x : Int)], ?_⟩
  simp only [Program.keyLits, he]
  simp [hw]
theorem keyLits_id {t e : TypeId} (hk : P.underlying t = some (.array 32 e)) (he : P.underlying e = some (.int .u8)) (hc : P.cellsOf t = 32) (hc2 : P.cellsOf e = 1) (d : Nat) (a : Id) : ∃ ls, P.keyLits (d + 2) t (u8s a.1) = some ls := by
  have hlen : (u8s a.1).length = 32 := by rw [u8s_length, a.2]
  rw [keyLits_array hk _ _ (by rw [hlen, hc]), hc2]
  obtain ⟨ys, hys⟩ := mapM_some (f := fun i => P.keyLits (d + 1) e (((u8s a.1).drop (i * 1)).take 1)) (l := List.range 32) (fun i hi => by
    have hi2 : i < 32 := List.mem_range.1 hi
    have hia : i < a.1.length := by rw [a.2]; exact hi2
    have : ((u8s a.1).drop (i * 1)).take 1 = [u8v a.1[i]] := by
      rw [Nat.mul_one, u8s_drop, u8s_take, List.drop_eq_getElem_cons hia]
      rfl
    rw [this]
    exact keyLits_u8 he d _)
  exact ⟨_, by rw [hys]; rfl⟩
theorem mapkey_rec {α : Type} {fs : Array Field} (hk : P.underlying k = some (.struct fs)) (hfn : fs.all (·.name != "_") = true) (hl : laidOutB P = true) {m s : Nat} (hm : m + 1 ≤ 10000) (hrow : k < P.types.size) (hkt : P.keyTypeAt m k = true) (hkt2 : P.keyType k = true) (hs : P.types.size = s)
    {kv : α → Value} (cs : α → List Value) (hkv : ∀ a, kv a = .agg (cs a).toArray) (hlen : ∀ a, (cs a).length = P.cellsOf k) (hlits : ∀ a, ∀ f ∈ fs.toList, ∃ ls, P.keyLits s f.type (((cs a).drop f.offset).take (P.cellsOf f.type)) = some ls) (hinj : ∀ a b, cs a = cs b → a = b) : MapKey P k kv where
  keyed := Keyed.of_law (deep_law_laid hl hm hrow hkt (by rw [hk]))
  lit a := by
    have hf : (kv a).formed P k = true := by simp [Value.formed, hkv, hk, hlen]
    have hls : ∃ ls, P.keyLits (P.types.size + 1) k (kv a).cells.toList = some ls := by
      have hcell : (kv a).cells.toList = cs a := by simp [hkv, Value.cells]
      rw [hcell, hs]
      obtain ⟨ys, hys⟩ := mapM_some (f := fun f : Field => P.keyLits s f.type (((cs a).drop f.offset).take (P.cellsOf f.type))) (l := fs.toList) (hlits a)
      refine ⟨ys.flatten, ?_⟩
      conv => lhs; unfold Program.keyLits
      simp only [hk, hlen, hfn, and_self, if_true, hys, Option.map_some]
    obtain ⟨ls, hls⟩ := hls
    refine ⟨.string (keyBytes ls), ?_⟩
    rw [keyOf, hk]
    simp only [hkt2, hf, Bool.and_self, if_true, hls, Option.map_some]
  inj a b h := by
    refine hinj a b ?_
    rw [hkv, hkv] at h
    simpa using congrArg Array.toList (Value.agg.inj h)
end
end Go.Proofs.Ytcmgjoamfjijhaa
