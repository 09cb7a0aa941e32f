import Derived.Test.YthbbbmomlehimaaRRowKit
import Derived.Test.YthbbbmomlehimaaRCoH
set_option linter.unusedVariables false
namespace Go.Proofs.YthbbbmomlehimaaR.Kit
open Go.ChangeShapes Go.WideShapes Go.ChangeAt Go.RowKit

section
variable {H : Type} {enc : TypeId × Value → H} {W : World} {sp : Nat → Bool} {held : Bool}

theorem fields {P : Program} {t n : Nat} {fs : Array Field} {cs : List Value} {x : DataW H × List MemPlace} (hs : P.underlying t = some (.struct fs)) (h : DataW.trod enc P W 0 sp held n t cs = some x) :
    cs.length = P.cellsOf t ∧ ∃ n', ∀ (i : Nat) (f : Field), fs[i]? = some f → ∃ y, DataW.trod enc P W 0 sp held n' f.type ((cs.drop f.offset).take (P.cellsOf f.type)) = some y := by
  obtain ⟨xs, n', _, _, hl, hx, hf⟩ := DataW.trod_struct hs h
  refine ⟨hl, n', fun i f hi => ?_⟩
  have hlt : i < xs.length := by rw [hx]; exact (Array.getElem?_eq_some_iff.1 hi).1
  exact ⟨xs[i], by rw [hf i f hi, List.getElem?_eq_getElem hlt]⟩
theorem int_at {P : Program} {n : Nat} {fs : Array Field} {cs : List Value} (hf : ∀ (i : Nat) (f : Field), fs[i]? = some f → ∃ y, DataW.trod enc P W 0 sp held n f.type ((cs.drop f.offset).take (P.cellsOf f.type)) = some y)
    (i : Nat) (f : Field) (hi : fs[i]? = some f) {k : IntKind} (hu : P.underlying f.type = some (.int k)) (hc : P.cellsOf f.type = 1) (c : Value) (hcs : cs[f.offset]? = some c) : ∃ z, c = .int k z ∧ (Lit.int k z).wf = true := by
  obtain ⟨y, h⟩ := hf i f hi
  have hlt : f.offset < cs.length := (List.getElem?_eq_some_iff.1 hcs).1
  have e : (cs.drop f.offset).take 1 = [c] := by
    have h2 : cs[f.offset] = c := Option.some.inj ((List.getElem?_eq_getElem hlt).symm.trans hcs)
    rw [List.drop_eq_getElem_cons hlt, List.take_succ_cons, List.take_zero, h2]
  rw [hc, e] at h
  obtain ⟨z, e1, _, w⟩ := DataW.trod_int hu h
  simp at e1
  exact ⟨z, e1, w⟩
theorem list3 {α : Type} {l : List α} (h : l.length = 3) : ∃ a b c, l = [a, b, c] := by
  match l, h with
  | [a, b, c], _ => exact ⟨a, b, c, rfl⟩
theorem list4 {α : Type} {l : List α} (h : l.length = 4) : ∃ a b c d, l = [a, b, c, d] := by
  match l, h with
  | [a, b, c, d], _ => exact ⟨a, b, c, d, rfl⟩
theorem list6 {α : Type} {l : List α} (h : l.length = 6) : ∃ a b c d e f, l = [a, b, c, d, e, f] := by
  match l, h with
  | [a, b, c, d, e, f], _ => exact ⟨a, b, c, d, e, f, rfl⟩
theorem list7 {α : Type} {l : List α} (h : l.length = 7) : ∃ a b c d e f g, l = [a, b, c, d, e, f, g] := by
  match l, h with
  | [a, b, c, d, e, f, g], _ => exact ⟨a, b, c, d, e, f, g, rfl⟩
theorem cells46 : Try.prog.cellsOf 46 = 4 := by kernel_rfl
theorem cells40 : Try.prog.cellsOf 40 = 7 := by kernel_rfl
theorem cells67 : Try.prog.cellsOf 67 = 3 := by kernel_rfl
theorem cells3 : Try.prog.cellsOf 3 = 1 := by kernel_rfl
theorem cells2 : Try.prog.cellsOf 2 = 1 := by kernel_rfl
theorem cells4 : Try.prog.cellsOf 4 = 1 := by kernel_rfl
theorem cells5 : Try.prog.cellsOf 5 = 1 := by kernel_rfl
theorem cells44 : Try.prog.cellsOf 44 = 1 := by kernel_rfl
theorem bounds_i64 {a : Int} (w : (Lit.int .i64 a).wf = true) : -9223372036854775808 ≤ a ∧ a ≤ 9223372036854775807 := by
  simpa [Lit.wf, IntKind.min, IntKind.max, IntKind.signed, IntKind.bits] using w
theorem bounds_u16 {a : Int} (w : (Lit.int .u16 a).wf = true) : 0 ≤ a ∧ a ≤ 65535 := by
  simpa [Lit.wf, IntKind.min, IntKind.max, IntKind.signed, IntKind.bits] using w
theorem bounds_u8 {a : Int} (w : (Lit.int .u8 a).wf = true) : 0 ≤ a ∧ a ≤ 255 := by
  simpa [Lit.wf, IntKind.min, IntKind.max, IntKind.signed, IntKind.bits] using w

theorem open_rq {n : Nat} {cs : List Value} {x : DataW H × List MemPlace} (h : DataW.trod enc Try.prog W 0 sp held n 46 cs = some x) : ∃ q : Ts.Rq, cs = q.vals.toList ∧ 0 ≤ q.addr ∧ q.addr < 65536 := by
  obtain ⟨hl, n', hf⟩ := fields Try.underlying46 h
  rw [cells46] at hl
  obtain ⟨c0, c1, c2, c3, rfl⟩ := list4 hl
  obtain ⟨z0, rfl, w0⟩ := int_at hf 0 _ rfl Try.underlying3 cells3 c0 rfl
  obtain ⟨z1, rfl, w1⟩ := int_at hf 1 _ rfl Try.underlying44 cells44 c1 rfl
  obtain ⟨z2, rfl, w2⟩ := int_at hf 2 _ rfl Try.underlying5 cells5 c2 rfl
  obtain ⟨z3, rfl, w3⟩ := int_at hf 3 _ rfl Try.underlying3 cells3 c3 rfl
  have := bounds_u16 w1
  exact ⟨⟨z0, z1, z2, z3⟩, rfl, by simp; omega, by simp; omega⟩

set_option maxRecDepth 100000 in
theorem open_scr {d : DataW H} {p : List MemPlace} {r : Reach} {b0 : Nat} {v : Value} (hv : Value.okWide Try.prog W r b0 40 v) (h : DataW.Trod enc Try.prog W 0 sp held 40 v d p) : ∃ s : Ts.Scr, v = s.val := by
  obtain ⟨cs, rfl, hsz⟩ := okWide_struct Try.underlying40 hv
  obtain ⟨fuel, hf0⟩ := h
  obtain ⟨hl, n', hf⟩ := fields Try.underlying40 hf0
  simp only [Value.cells] at hl hf
  rw [cells40] at hl
  obtain ⟨cs⟩ := cs
  simp only at hl hf
  obtain ⟨c0, c1, c2, c3, c4, c5, c6, rfl⟩ := list7 hl
  obtain ⟨z0, rfl, w0⟩ := int_at hf 0 _ rfl Try.underlying3 cells3 c0 rfl
  obtain ⟨z1, rfl, w1⟩ := int_at hf 1 _ rfl Try.underlying3 cells3 c1 rfl
  obtain ⟨z2, rfl, w2⟩ := int_at hf 2 _ rfl Try.underlying3 cells3 c2 rfl
  obtain ⟨z3, rfl, w3⟩ := int_at hf 3 _ rfl Try.underlying3 cells3 c3 rfl
  obtain ⟨z4, rfl, w4⟩ := int_at hf 4 _ rfl Try.underlying3 cells3 c4 rfl
  obtain ⟨z5, rfl, w5⟩ := int_at hf 5 _ rfl Try.underlying3 cells3 c5 rfl
  obtain ⟨z6, rfl, w6⟩ := int_at hf 6 _ rfl Try.underlying3 cells3 c6 rfl
  exact ⟨⟨z0, z1, z2, z3, z4, z5, z6⟩, rfl⟩

theorem open_bool_cell {n : Nat} {cs : List Value} {x : DataW H × List MemPlace} (h : DataW.trod enc Try.prog W 0 sp held n 4 cs = some x) : ∃ b : Bool, cs = [.bool b] := by
  obtain ⟨b, e, _⟩ := DataW.trod_bool Try.underlying4 h
  exact ⟨b, e⟩

set_option maxRecDepth 100000 in
/-- A []Req that came in. -/
theorem open_reqs {a : Option Addr} {len cap : Nat} {d : DataW H} {ps : List MemPlace} {ts : List TypeId} {ds : List (DataW H)} {j : Nat}
    (hsz : (DataW.weightsEach Try.prog ts ds).all (· ≤ reachBytes) = true) (ht : ts[j]? = some 41) (hd : ds[j]? = some d) (h : DataW.Trod enc Try.prog W 0 (fun _ => true) true 41 (.slice a len cap) d ps) :
    ∃ qs, Ts.ReqsAt W a len qs ∧ (∀ i, i < len → 0 ≤ (qs.getD i default).addr ∧ (qs.getD i default).addr < 65536) ∧ len ≤ 140737488351232 := by
  obtain ⟨hl, hcap, hm, hc⟩ := open_any (C := 4) (B := 24) hsz ht hd Try.underlying41 cells46 (by decide) (by kernel_rfl) h
  by_cases hp : 0 < len
  · obtain ⟨b, off, rfl, hb, hel⟩ := hc hp
    have key : ∀ i, i < len → ∃ q : Ts.Rq, (0 ≤ q.addr ∧ q.addr < 65536) ∧ ∀ k, k < 4 → W.cell? ⟨b, off + i * 4 + k, none⟩ = q.vals.toList[k]? := fun i hi => by
      obtain ⟨cs, n, x, hlen, hcell, htr⟩ := hel i hi
      obtain ⟨q, rfl, h1, h2⟩ := open_rq htr
      exact ⟨q, ⟨h1, h2⟩, hcell⟩
    obtain ⟨f, hf⟩ := Go.Deep.choose_lt key
    have hget : ∀ i, i < len → ((List.range len).map f).getD i default = f i := fun i hi => by simp [List.getD, hi]
    refine ⟨(List.range len).map f, ⟨by simp, fun _ => ⟨b, off, rfl, hb, fun i hi => ?_⟩⟩, fun i hi => ?_, by omega⟩
    · rw [hget i hi]
      have h4 := (hf i hi).2
      exact ⟨(h4 0 (by omega)), (h4 1 (by omega)), (h4 2 (by omega)), (h4 3 (by omega))⟩
    · rw [hget i hi]; exact (hf i hi).1
  · exact ⟨[], ⟨by simp; omega, fun h => absurd h hp⟩, fun i hi => by omega, by omega⟩

set_option maxRecDepth 100000 in
/-- A []bool that came in. -/
theorem open_bools {a : Option Addr} {len cap : Nat} {d : DataW H} {ps : List MemPlace} {ts : List TypeId} {ds : List (DataW H)} {j : Nat}
    (hsz : (DataW.weightsEach Try.prog ts ds).all (· ≤ reachBytes) = true) (ht : ts[j]? = some 23) (hd : ds[j]? = some d) (h : DataW.Trod enc Try.prog W 0 (fun _ => true) true 23 (.slice a len cap) d ps) :
    ∃ bs, Ts.BoolsAt W a len bs ∧ len ≤ 140737488351232 := by
  obtain ⟨hl, hcap, hm, hc⟩ := open_any (C := 1) (B := 1) hsz ht hd Try.underlying23 cells4 (by decide) (by kernel_rfl) h
  by_cases hp : 0 < len
  · obtain ⟨b, off, rfl, hb, hel⟩ := hc hp
    have key : ∀ i, i < len → ∃ q : Bool, W.cell? ⟨b, off + i, none⟩ = some (.bool q) := fun i hi => by
      obtain ⟨cs, n, x, hlen, hcell, htr⟩ := hel i hi
      obtain ⟨q, rfl⟩ := open_bool_cell htr
      exact ⟨q, by have h0 := hcell 0 (by omega); rw [Nat.mul_one] at h0; exact h0⟩
    obtain ⟨f, hf⟩ := Go.Deep.choose_lt key
    refine ⟨(List.range len).map f, ⟨by simp, fun _ => ⟨b, off, rfl, hb, fun i hi => ?_⟩⟩, by omega⟩
    have hget : ((List.range len).map f).getD i false = f i := by simp [List.getD, hi]
    rw [hget]; exact hf i hi
  · exact ⟨[], ⟨by simp; omega, fun h => absurd h hp⟩, by omega⟩
end
theorem laidOut : laidOutB Try.prog = true := by kernel_rfl
theorem own : ownKnob Try.prog.godebug = none := by kernel_rfl
end Go.Proofs.YthbbbmomlehimaaR.Kit
