import Derived.Test.YthbbbmomlehimaaRRowKitB
import Derived.Test.YthbbbmomlehimaaRLkE
set_option linter.unusedVariables false
namespace Go.Proofs.YthbbbmomlehimaaR.Kit
open Go.ChangeShapes Go.WideShapes Go.ChangeAt Go.RowKit

section
variable {H : Type} {enc : TypeId × Value → H} {W : World} {sp : Nat → Bool} {held : Bool}
theorem cells33 : Try.prog.cellsOf 33 = 7 := by kernel_rfl
theorem open_mg {n : Nat} {cs : List Value} {x : DataW H × List MemPlace} (h : DataW.trod enc Try.prog W 0 sp held n 33 cs = some x) : ∃ q : Lk.Mg, cs = q.vals.toList := by
  obtain ⟨hl, n', hf⟩ := fields Try.underlying33 h
  rw [cells33] at hl
  obtain ⟨c0, c1, c2, c3, c4, c5, c6, rfl⟩ := list7 hl
  obtain ⟨z0, rfl, w0⟩ := int_at hf 0 _ rfl Try.underlying3 cells3 c0 rfl
  obtain ⟨z1, rfl, w1⟩ := int_at hf 1 _ rfl Try.underlying2 cells2 c1 rfl
  obtain ⟨z2, rfl, w2⟩ := int_at hf 2 _ rfl Try.underlying3 cells3 c2 rfl
  obtain ⟨z3, rfl, w3⟩ := int_at hf 3 _ rfl Try.underlying5 cells5 c3 rfl
  obtain ⟨z4, rfl, w4⟩ := int_at hf 4 _ rfl Try.underlying3 cells3 c4 rfl
  obtain ⟨z5, rfl, w5⟩ := int_at hf 5 _ rfl Try.underlying3 cells3 c5 rfl
  obtain ⟨z6, rfl, w6⟩ := int_at hf 6 _ rfl Try.underlying5 cells5 c6 rfl
  exact ⟨⟨z0, z1, z2, z3, z4, z5, z6⟩, rfl⟩
set_option maxRecDepth 100000 in
/-- A []Msg that came in. -/
theorem open_msgs {a : Option Addr} {len cap : Nat} {d : DataW H} {ps : List MemPlace} {ts : List TypeId} {ds : List (DataW H)} {j : Nat}
    (hsz : (DataW.weightsEach Try.prog ts ds).all (· ≤ reachBytes) = true) (ht : ts[j]? = some 22) (hd : ds[j]? = some d) (h : DataW.Trod enc Try.prog W 0 (fun _ => true) true 22 (.slice a len cap) d ps) :
    ∃ qs, Lk.MsgsAt W a len qs ∧ len ≤ 140737488351232 := by
  obtain ⟨hl, hcap, hm, hc⟩ := open_any (C := 7) (B := 56) hsz ht hd Try.underlying22 cells33 (by decide) (by kernel_rfl) h
  by_cases hp : 0 < len
  · obtain ⟨b, off, rfl, hb, hel⟩ := hc hp
    have key : ∀ i, i < len → ∃ q : Lk.Mg, ∀ k, k < 7 → W.cell? ⟨b, off + i * 7 + k, none⟩ = q.vals.toList[k]? := fun i hi => by
      obtain ⟨cs, n, x, hlen, hcell, htr⟩ := hel i hi
      obtain ⟨q, rfl⟩ := open_mg htr
      exact ⟨q, hcell⟩
    obtain ⟨f, hf⟩ := Go.Deep.choose_lt key
    refine ⟨(List.range len).map f, ⟨by simp, fun _ => ⟨b, off, rfl, hb, fun i k hi hk => ?_⟩⟩, by omega⟩
    have hget : ((List.range len).map f).getD i default = f i := by simp [List.getD, hi]
    rw [hget, hf i hi k hk]
    simp
  · exact ⟨[], ⟨by simp; omega, fun h => absurd h hp⟩, by omega⟩
end
end Go.Proofs.YthbbbmomlehimaaR.Kit
