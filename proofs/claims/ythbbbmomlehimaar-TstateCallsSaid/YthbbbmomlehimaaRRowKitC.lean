import Derived.Test.YthbbbmomlehimaaRRowKitB
set_option linter.unusedVariables false
namespace Go.Proofs.YthbbbmomlehimaaR.Kit
open Go.ChangeShapes Go.WideShapes Go.ChangeAt Go.RowKit

section
variable {H : Type} {enc : TypeId × Value → H} {W : World} {sp : Nat → Bool} {held : Bool}
set_option maxRecDepth 100000 in
theorem open_spot {d : DataW H} {p : List MemPlace} {r : Reach} {b0 : Nat} {v : Value} (hv : Value.okWide Try.prog W r b0 67 v) (h : DataW.Trod enc Try.prog W 0 sp held 67 v d p) : ∃ s : Ts.Spt, v = s.val := by
  obtain ⟨cs, rfl, hsz⟩ := okWide_struct Try.underlying67 hv
  obtain ⟨fuel, hf0⟩ := h
  obtain ⟨hl, n', hf⟩ := fields Try.underlying67 hf0
  simp only [Value.cells] at hl hf
  rw [cells67] at hl
  obtain ⟨cs⟩ := cs
  simp only at hl hf
  obtain ⟨c0, c1, c2, rfl⟩ := list3 hl
  obtain ⟨z0, rfl, w0⟩ := int_at hf 0 _ rfl Try.underlying2 cells2 c0 rfl
  obtain ⟨z1, rfl, w1⟩ := int_at hf 1 _ rfl Try.underlying3 cells3 c1 rfl
  obtain ⟨z2, rfl, w2⟩ := int_at hf 2 _ rfl Try.underlying3 cells3 c2 rfl
  exact ⟨⟨z0, z1, z2⟩, rfl⟩
end
end Go.Proofs.YthbbbmomlehimaaR.Kit
