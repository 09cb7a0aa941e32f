import Derived.Test.YthbbbmomlehimaaRTsH
set_option linter.unusedVariables false
namespace Go.Proofs.YthbbbmomlehimaaR.Ts
open Go.RowKit Oc

/-- When the next frame begins. -/
def Scr.nextV (s : Scr) (t : Int) : Int × Bool :=
  if s.ok = false ∨ 1099511627776 ≤ t then (0, false) else if t < 0 then (0, true)
  else if 1099511627776 < (t / (s.lines * s.columns) + 1) * (s.lines * s.columns) then (0, false) else ((t / (s.lines * s.columns) + 1) * (s.lines * s.columns), true)

set_option maxRecDepth 100000 in
theorem next_no (s : Scr) (t : Int) (w : World) (h : s.ok = false) :
    Calls Try.prog 46 #[s.val, .int .i64 t] w fun e w' => e = .returned (.tuple #[.int .i64 0, .bool false]) ∧ Below w.heap.size w w' := by
  have hl := length_calls s
  rw [Scr.len_no h] at hl
  have HL := Lib.hid hl; clear hl h
  unfold Scr.val Scr.vals at *
  go_enter Try.func46, Try.ntmps46
  go_wp2_with fail
  refine (HL.out _).mono ?_; rintro e W ⟨rfl, hb⟩
  have hB := Kit.then_ (Kit.below1 _ _) hb
  have HB := Lib.hid hB; clear hB hb
  go_wp2_with fail
  go_ret2
  exact ⟨rfl, HB.out⟩

set_option maxRecDepth 100000 in
theorem next_late (s : Scr) (t : Int) (w : World) (h : s.ok = true) (h1 : 1099511627776 ≤ t) :
    Calls Try.prog 46 #[s.val, .int .i64 t] w fun e w' => e = .returned (.tuple #[.int .i64 0, .bool false]) ∧ Below w.heap.size w w' := by
  have hl := length_calls s
  rw [Scr.len_yes h] at hl
  have HL := Lib.hid hl; clear hl
  obtain ⟨_, _, c1, c2, _, _, _, _, _, _, _, _, _, _, _, _, _, _, _, _, n1, n2⟩ := s.fits h
  generalize s.lines * s.columns = N at *
  have dn : (N == 0) = false := beq_eq_false_iff_ne.2 (by omega)
  have d1 : decide (1099511627776 ≤ t) = true := decide_eq_true h1
  unfold Scr.val Scr.vals at *
  go_enter Try.func46, Try.ntmps46
  go_wp2_with fail
  refine (HL.out _).mono ?_; rintro e W ⟨rfl, hb⟩
  have hB := Kit.then_ (Kit.below1 _ _) hb
  have HB := Lib.hid hB; clear hB hb
  go_wp2_with fail
  go_ret2
  exact ⟨rfl, HB.out⟩

set_option maxRecDepth 100000 in
theorem next_neg (s : Scr) (t : Int) (w : World) (h : s.ok = true) (h1 : t < 0) :
    Calls Try.prog 46 #[s.val, .int .i64 t] w fun e w' => e = .returned (.tuple #[.int .i64 0, .bool true]) ∧ Below w.heap.size w w' := by
  have hl := length_calls s
  rw [Scr.len_yes h] at hl
  have HL := Lib.hid hl; clear hl
  obtain ⟨_, _, c1, c2, _, _, _, _, _, _, _, _, _, _, _, _, _, _, _, _, n1, n2⟩ := s.fits h
  generalize s.lines * s.columns = N at *
  have dn : (N == 0) = false := beq_eq_false_iff_ne.2 (by omega)
  have d1 : decide (1099511627776 ≤ t) = false := decide_eq_false (by omega)
  have d2 : decide (t < 0) = true := decide_eq_true h1
  unfold Scr.val Scr.vals at *
  go_enter Try.func46, Try.ntmps46
  go_wp2_with fail
  refine (HL.out _).mono ?_; rintro e W ⟨rfl, hb⟩
  have hB := Kit.then_ (Kit.below1 _ _) hb
  have HB := Lib.hid hB; clear hB hb
  go_wp2_with fail
  go_ret2
  exact ⟨rfl, HB.out⟩

set_option maxRecDepth 100000 in
theorem next_far (s : Scr) (t : Int) (w : World) (h : s.ok = true) (h0 : 0 ≤ t) (h1 : t < 1099511627776) (h2 : 1099511627776 < (t / (s.lines * s.columns) + 1) * (s.lines * s.columns)) :
    Calls Try.prog 46 #[s.val, .int .i64 t] w fun e w' => e = .returned (.tuple #[.int .i64 0, .bool false]) ∧ Below w.heap.size w w' := by
  have hl := length_calls s
  rw [Scr.len_yes h] at hl
  have HL := Lib.hid hl; clear hl
  obtain ⟨_, _, c1, c2, _, _, _, _, _, _, _, _, _, _, _, _, _, _, _, _, n1, n2⟩ := s.fits h
  generalize s.lines * s.columns = N at *
  have dn : (N == 0) = false := beq_eq_false_iff_ne.2 (by omega)
  have b1 : t / N * N ≤ t := Int.ediv_mul_le _ (by omega)
  have b0 : 0 ≤ t / N := Int.ediv_nonneg h0 (by omega)
  have b3 : t / N ≤ t := Int.ediv_le_self _ h0
  have b2 : 0 ≤ t / N * N := Int.mul_nonneg b0 (by omega)
  have b4 : (t / N + 1) * N = t / N * N + N := by rw [Int.add_mul, Int.one_mul]
  have b5 : 0 ≤ (t / N + 1) * N := by omega
  have b6 : (t / N + 1) * N ≤ 1099511787776 := by omega
  clear b4 b1 b2
  have d1 : decide (1099511627776 ≤ t) = false := decide_eq_false (by omega)
  have d2 : decide (t < 0) = false := decide_eq_false (by omega)
  have d3 : decide (1099511627776 < (t / N + 1) * N) = true := decide_eq_true h2
  unfold Scr.val Scr.vals at *
  go_enter Try.func46, Try.ntmps46
  go_wp2_with fail
  refine (HL.out _).mono ?_; rintro e W ⟨rfl, hb⟩
  have hB := Kit.then_ (Kit.below1 _ _) hb
  have HB := Lib.hid hB; clear hB hb
  go_wp2_with fail
  go_ret2
  exact ⟨rfl, HB.out⟩

set_option maxRecDepth 100000 in
theorem next_near (s : Scr) (t : Int) (w : World) (h : s.ok = true) (h0 : 0 ≤ t) (h1 : t < 1099511627776) (h2 : (t / (s.lines * s.columns) + 1) * (s.lines * s.columns) ≤ 1099511627776) :
    Calls Try.prog 46 #[s.val, .int .i64 t] w fun e w' => e = .returned (.tuple #[.int .i64 ((t / (s.lines * s.columns) + 1) * (s.lines * s.columns)), .bool true]) ∧ Below w.heap.size w w' := by
  have hl := length_calls s
  rw [Scr.len_yes h] at hl
  have HL := Lib.hid hl; clear hl
  obtain ⟨_, _, c1, c2, _, _, _, _, _, _, _, _, _, _, _, _, _, _, _, _, n1, n2⟩ := s.fits h
  generalize hN : s.lines * s.columns = N at *
  have dn : (N == 0) = false := beq_eq_false_iff_ne.2 (by omega)
  have b1 : t / N * N ≤ t := Int.ediv_mul_le _ (by omega)
  have b0 : 0 ≤ t / N := Int.ediv_nonneg h0 (by omega)
  have b3 : t / N ≤ t := Int.ediv_le_self _ h0
  have b2 : 0 ≤ t / N * N := Int.mul_nonneg b0 (by omega)
  have b4 : (t / N + 1) * N = t / N * N + N := by rw [Int.add_mul, Int.one_mul]
  have b5 : 0 ≤ (t / N + 1) * N := by omega
  have b6 : (t / N + 1) * N ≤ 1099511787776 := by omega
  clear b4 b1 b2
  have d1 : decide (1099511627776 ≤ t) = false := decide_eq_false (by omega)
  have d2 : decide (t < 0) = false := decide_eq_false (by omega)
  have d3 : decide (1099511627776 < (t / N + 1) * N) = false := decide_eq_false (by omega)
  have HN := Lib.hid hN; clear hN
  unfold Scr.val Scr.vals at *
  go_enter Try.func46, Try.ntmps46
  go_wp2_with fail
  refine (HL.out _).mono ?_; rintro e W ⟨rfl, hb⟩
  have hB := Kit.then_ (Kit.below1 _ _) hb
  have HB := Lib.hid hB; clear hB hb
  go_wp2_with fail
  go_ret2
  exact ⟨rfl, HB.out⟩

theorem next_calls (s : Scr) (t : Int) (w : World) :
    Calls Try.prog 46 #[s.val, .int .i64 t] w fun e w' => e = .returned (.tuple #[.int .i64 (s.nextV t).1, .bool (s.nextV t).2]) ∧ Below w.heap.size w w' := by
  unfold Scr.nextV
  cases h : s.ok
  · rw [if_pos (.inl rfl)]; exact next_no s t w h
  by_cases h1 : 1099511627776 ≤ t
  · rw [if_pos (.inr h1)]; exact next_late s t w h h1
  rw [if_neg (by simp; omega)]
  by_cases h2 : t < 0
  · rw [if_pos h2]; exact next_neg s t w h h2
  rw [if_neg h2]
  by_cases h3 : 1099511627776 < (t / (s.lines * s.columns) + 1) * (s.lines * s.columns)
  · rw [if_pos h3]; exact next_far s t w h (by omega) (by omega) h3
  rw [if_neg h3]
  exact next_near s t w h (by omega) (by omega) (by omega)
end Go.Proofs.YthbbbmomlehimaaR.Ts
