import Derived.Test.YthbbbmomlehimaaRRowKitC
import Derived.Test.YthbbbmomlehimaaRRfA
set_option linter.unusedVariables false
namespace Go.Proofs.YthbbbmomlehimaaR.Kit
open Go.ChangeShapes Go.WideShapes Go.ChangeAt Go.RowKit

section
variable {H : Type} {enc : TypeId × Value → H} {W : World}
/-- A slice without an array has no room. -/
theorem nil_fit {P : Program} {t e : TypeId} {a : Option Addr} {len cap : Nat} {d : DataW H} {ps : List MemPlace} (hu : P.underlying t = some (.slice e)) (h : DataW.Trod enc P W 0 (fun _ => true) true t (.slice a len cap) d ps) : Oc.NilFit a cap := by
  obtain ⟨fuel, hf⟩ := h
  intro ha
  subst ha
  rcases Go.Deep.open_slice hu hf with ⟨hcs, _⟩ | ⟨x, l, c, m, n, D, Pl, hcs, _⟩
  · simp [Value.cells] at hcs; exact hcs.2
  · simp [Value.cells] at hcs
set_option maxRecDepth 100000 in
/-- A []byte that came in. -/
theorem open_bytes {a : Option Addr} {len cap : Nat} {d : DataW H} {ps : List MemPlace} {ts : List TypeId} {ds : List (DataW H)} {j : Nat}
    (hsz : (DataW.weightsEach Try.prog ts ds).all (· ≤ reachBytes) = true) (ht : ts[j]? = some 68) (hd : ds[j]? = some d) (h : DataW.Trod enc Try.prog W 0 (fun _ => true) true 68 (.slice a len cap) d ps) :
    ∃ l, Oc.BytesAt W a len l ∧ (∀ b ∈ l, 0 ≤ b ∧ b < 256) ∧ Oc.NilFit a cap ∧ len ≤ 140737488351232 := by
  obtain ⟨hl, hcap, hm, hc⟩ := open_any (C := 1) (B := 1) hsz ht hd Try.underlying68 cells5 (by decide) (by kernel_rfl) h
  have hfit := nil_fit Try.underlying68 h
  by_cases hp : 0 < len
  · obtain ⟨b, off, rfl, hb, hel⟩ := hc hp
    have key : ∀ i, i < len → ∃ q : Int, (0 ≤ q ∧ q < 256) ∧ W.cell? ⟨b, off + i, none⟩ = some (.int .u8 q) := fun i hi => by
      obtain ⟨cs, n, x, hlen, hcell, htr⟩ := hel i hi
      obtain ⟨q, rfl, _, hw⟩ := DataW.trod_int Try.underlying5 htr
      have := bounds_u8 hw
      exact ⟨q, by omega, by have h0 := hcell 0 (by omega); rw [Nat.mul_one] at h0; exact h0⟩
    obtain ⟨f, hf⟩ := Go.Deep.choose_lt key
    refine ⟨(List.range len).map f, ⟨by simp, fun _ => ⟨b, off, rfl, hb, fun i hi => ?_⟩⟩, fun x hx => ?_, hfit, by omega⟩
    · have hget : ((List.range len).map f).getD i 0 = f i := by simp [List.getD, hi]
      rw [hget]; exact (hf i hi).2
    · obtain ⟨i, hi, rfl⟩ := List.mem_map.1 hx
      exact (hf i (List.mem_range.1 hi)).1
  · exact ⟨[], ⟨by simp; omega, fun h => absurd h hp⟩, by simp, hfit, by omega⟩
end
end Go.Proofs.YthbbbmomlehimaaR.Kit
