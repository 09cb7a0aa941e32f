import Derived.Test.YthbbbmomlehimaaRKitB
import Derived.ProofKit
import Derived.OpenShut
import Derived.ShutString
import Derived.ChangeOld
import Derived.SizedLaws
import Derived.Deep.Slices
set_option linter.unusedVariables false
namespace Go.Proofs.YthbbbmomlehimaaR.Kit
open Go.ChangeShapes Go.WideShapes Go.ChangeAt Go.RowKit

section
variable {H : Type} {enc : TypeId × Value → H} {P : Program} {W : World}

/-- A slice that came in: no longer than its weight allows; where it has an element, an array of which each element reads as it does. -/
theorem open_any {t e : TypeId} {C B : Nat} {a : Option Addr} {len cap : Nat} {d : DataW H} {ps : List MemPlace} {ts : List TypeId} {ds : List (DataW H)} {j : Nat}
    (hsz : (DataW.weightsEach P ts ds).all (· ≤ reachBytes) = true) (ht : ts[j]? = some t) (hd : ds[j]? = some d) (hu : P.underlying t = some (.slice e)) (hc : P.cellsOf e = C) (hC : 0 < C) (hB : P.bytesOf e = B)
    (h : DataW.Trod enc P W 0 (fun _ => true) true t (.slice a len cap) d ps) :
    len * B ≤ 140737488351232 ∧ len ≤ cap ∧ cap ≤ maxLen ∧ (0 < len → ∃ b off, a = some ⟨b, off, none⟩ ∧ b < W.heap.size ∧ ∀ i, i < len → ∃ cs n x, cs.length = C ∧ (∀ k, k < C → W.cell? ⟨b, off + i * C + k, none⟩ = cs[k]?) ∧
      DataW.trod enc P W 0 (fun _ => true) true n e cs = some x) := by
  obtain ⟨fuel, hf⟩ := h
  rcases Go.Deep.open_slice hu hf with ⟨hcs, _⟩ | ⟨x, l, c, m, n, D, Pl, hcs, _, hl, hm, hmm, hx, hel⟩
  · simp [Value.cells] at hcs
    obtain ⟨rfl, rfl, rfl⟩ := hcs
    exact ⟨by simp, Nat.le_refl _, Nat.zero_le _, fun h => by omega⟩
  · simp [Value.cells] at hcs
    obtain ⟨rfl, rfl, rfl⟩ := hcs
    simp at hmm
    subst hmm
    obtain ⟨hx, _⟩ := Prod.mk.inj hx
    subst hx
    have z := sized_slice hsz ht hd hu
    rw [hB] at z
    simp at z
    have z2 : len * B ≤ reachBytes := Nat.le_trans (Nat.mul_le_mul_right _ (by omega)) z
    refine ⟨z2, hl, hm, fun hp => ?_⟩
    rw [hc] at hel
    obtain ⟨cs0, hcs0, _⟩ := hel 0 (by omega)
    obtain ⟨b, off, spot⟩ := x
    have hlt := World.cells?_block hcs0 hC
    have key : ∀ i, i < m → ∃ cs, W.cells? 0 ((⟨b, off, spot⟩ : Addr).add (i * C)) C = some cs ∧ DataW.trod enc P W 0 (fun _ => true) true n e cs = some (D i, Pl i) := hel
    have hs : spot = none := by
      have h1 := (World.cells?_some hcs0).2.2 0 hC
      have h2 : (W.cell? ((⟨b, off, spot⟩ : Addr).add (0 * C) |>.add 0)) = cs0[0]? := h1
      have hlen := (World.cells?_some hcs0).2.1
      rw [List.getElem?_eq_getElem (by omega)] at h2
      simpa [Addr.add] using World.cell?_spot h2
    subst hs
    refine ⟨b, off, rfl, by simpa [Addr.add] using hlt, fun i hi => ?_⟩
    obtain ⟨cs, h1, h2⟩ := key i (by omega)
    refine ⟨cs, n, _, (World.cells?_some h1).2.1, fun k hk => ?_, h2⟩
    have h3 := (World.cells?_some h1).2.2 k hk
    rw [← h3]
    congr 1
    unfold Addr.add
    split <;> split <;> simp_all <;> omega
end
end Go.Proofs.YthbbbmomlehimaaR.Kit
