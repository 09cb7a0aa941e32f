import Derived.Test.YthbbbmomlehimaaRRgB
set_option linter.unusedVariables false
namespace Go.Proofs.YthbbbmomlehimaaR.Ts
open Go.RowKit Oc

set_option maxRecDepth 100000 in
theorem rnext_no (s : Scr) (t : Int) (w : World) (h : s.ok = false) :
    Calls Try.prog 47 #[s.val, .int .i64 t] w fun e w' => e = .returned (.tuple #[.int .i64 0, .bool false]) ∧ Below w.heap.size w w' := by
  have hc := ref02_calls s
  rw [Scr.code_no h] at hc
  have HC := Lib.hid hc; clear hc h
  unfold Scr.val Scr.vals at *
  go_enter Try.func47, Try.ntmps47
  go_wp2_with fail
  refine (HC.out _).mono ?_; rintro e W ⟨rfl, hb⟩
  have hB := Kit.then_ (Kit.below1 _ _) hb
  have HB := Lib.hid hB; clear hB hb
  go_wp2_with fail
  go_ret2
  exact ⟨rfl, HB.out⟩

set_option maxRecDepth 100000 in
theorem rnext_late (s : Scr) (t : Int) (w : World) (h : s.ok = true) (h1 : 1099511627776 ≤ t) :
    Calls Try.prog 47 #[s.val, .int .i64 t] w fun e w' => e = .returned (.tuple #[.int .i64 0, .bool false]) ∧ Below w.heap.size w w' := by
  have hc := ref02_calls s
  rw [Scr.code_yes h] at hc
  have HC := Lib.hid hc; clear hc
  have hl := ref02_length s
  rw [Scr.len_yes h] at hl
  have HL := Lib.hid hl; clear hl
  obtain ⟨_, _, c1, c2, _, _, _, _, _, _, _, _, _, _, _, _, _, _, _, _, n1, n2⟩ := s.fits h
  generalize s.lines * s.columns = N at *
  have dn : (N == 0) = false := beq_eq_false_iff_ne.2 (by omega)
  have d1 : decide (1099511627776 ≤ t) = true := decide_eq_true h1
  unfold Scr.val Scr.vals at *
  go_enter Try.func47, Try.ntmps47
  go_wp2_with fail
  refine (HC.out _).mono ?_; rintro e W ⟨rfl, hb⟩
  have hB := Kit.then_ (Kit.below1 _ _) hb
  have HB := Lib.hid hB; clear hB hb
  go_wp2_with fail
  go_ret2
  exact ⟨rfl, HB.out⟩

set_option maxRecDepth 100000 in
theorem rnext_neg (s : Scr) (t : Int) (w : World) (h : s.ok = true) (h1 : t < 0) :
    Calls Try.prog 47 #[s.val, .int .i64 t] w fun e w' => e = .returned (.tuple #[.int .i64 0, .bool true]) ∧ Below w.heap.size w w' := by
  have hc := ref02_calls s
  rw [Scr.code_yes h] at hc
  have HC := Lib.hid hc; clear hc
  have hl := ref02_length s
  rw [Scr.len_yes h] at hl
  have HL := Lib.hid hl; clear hl
  obtain ⟨_, _, c1, c2, _, _, _, _, _, _, _, _, _, _, _, _, _, _, _, _, n1, n2⟩ := s.fits h
  generalize s.lines * s.columns = N at *
  have dn : (N == 0) = false := beq_eq_false_iff_ne.2 (by omega)
  have d1 : decide (1099511627776 ≤ t) = false := decide_eq_false (by omega)
  have d2 : decide (t < 0) = true := decide_eq_true h1
  unfold Scr.val Scr.vals at *
  go_enter Try.func47, Try.ntmps47
  go_wp2_with fail
  refine (HC.out _).mono ?_; rintro e W ⟨rfl, hb⟩
  have hB := Kit.then_ (Kit.below1 _ _) hb
  have HB := Lib.hid hB; clear hB hb
  go_wp2_with fail
  go_ret2
  exact ⟨rfl, HB.out⟩

set_option maxRecDepth 100000 in
theorem rnext_far (s : Scr) (t : Int) (w : World) (h : s.ok = true) (h0 : 0 ≤ t) (h1 : t < 1099511627776) (h2 : 1099511627776 < (t / (s.lines * s.columns) + 1) * (s.lines * s.columns)) :
    Calls Try.prog 47 #[s.val, .int .i64 t] w fun e w' => e = .returned (.tuple #[.int .i64 0, .bool false]) ∧ Below w.heap.size w w' := by
  have hc := ref02_calls s
  rw [Scr.code_yes h] at hc
  have HC := Lib.hid hc; clear hc
  have hl := ref02_length s
  rw [Scr.len_yes h] at hl
  have HL := Lib.hid hl; clear hl
  obtain ⟨_, _, c1, c2, _, _, _, _, _, _, _, _, _, _, _, _, _, _, _, _, n1, n2⟩ := s.fits h
  generalize s.lines * s.columns = N at *
  have dn : (N == 0) = false := beq_eq_false_iff_ne.2 (by omega)
  have b1 : t / N * N ≤ t := Int.ediv_mul_le _ (by omega)
  have b0 : 0 ≤ t / N := Int.ediv_nonneg h0 (by omega)
  have b3 : t / N ≤ t := Int.ediv_le_self _ h0
  have b2 : 0 ≤ t / N * N := Int.mul_nonneg b0 (by omega)
  have b4 : (t / N + 1) * N = t / N * N + N := by rw [Int.add_mul, Int.one_mul]
  have b5 : 0 ≤ (t / N + 1) * N := by omega
  have b6 : (t / N + 1) * N ≤ 1099511787776 := by omega
  clear b4 b1 b2
  have hm := rmay_calls ((t / N + 1) * N)
  rw [show mayB ((t / N + 1) * N) = false by unfold mayB; rw [decide_eq_false (show ¬ (t / N + 1) * N ≤ 1099511627776 by omega), Bool.and_false]] at hm
  have HM := Lib.hid hm; clear hm
  have d1 : decide (1099511627776 ≤ t) = false := decide_eq_false (by omega)
  have d2 : decide (t < 0) = false := decide_eq_false (by omega)
  unfold Scr.val Scr.vals at *
  go_enter Try.func47, Try.ntmps47
  go_wp2_with fail
  refine (HC.out _).mono ?_; rintro e W ⟨rfl, hb⟩
  have B0 := Kit.kept hb (Kit.blk1 _ _)
  have hB := Kit.then_ (Kit.below1 _ _) hb
  clear hb
  have a0 : W.cell? ⟨w.heap.size, 0, none⟩ = some (.int .i64 s.lines) := Kit.cell B0 0 _ rfl
  have a1 : W.cell? ⟨w.heap.size, 1, none⟩ = some (.int .i64 s.columns) := Kit.cell B0 1 _ rfl
  have a2 : W.cell? ⟨w.heap.size, 2, none⟩ = some (.int .i64 s.top) := Kit.cell B0 2 _ rfl
  have a3 : W.cell? ⟨w.heap.size, 3, none⟩ = some (.int .i64 s.rows) := Kit.cell B0 3 _ rfl
  have a4 : W.cell? ⟨w.heap.size, 4, none⟩ = some (.int .i64 s.left) := Kit.cell B0 4 _ rfl
  have a5 : W.cell? ⟨w.heap.size, 5, none⟩ = some (.int .i64 s.wide) := Kit.cell B0 5 _ rfl
  have a6 : W.cell? ⟨w.heap.size, 6, none⟩ = some (.int .i64 s.pulse) := Kit.cell B0 6 _ rfl
  have y0 := fun d os => cell_regrown a0 d os
  have y1 := fun d os => cell_regrown a1 d os
  have y2 := fun d os => cell_regrown a2 d os
  have y3 := fun d os => cell_regrown a3 d os
  have y4 := fun d os => cell_regrown a4 d os
  have y5 := fun d os => cell_regrown a5 d os
  have y6 := fun d os => cell_regrown a6 d os
  clear a0 a1 a2 a3 a4 a5 a6 B0
  have HB := Lib.hid hB; clear hB
  go_wp2_with fail
  refine wp_region_quiet_below (by kernel_rfl) (by kernel_rfl) ?_
  repeat (go_big_quiet_step ((exact Calls.regrown_of (HL.out _))))
  refine wpQuiet_nil ?_
  intro _ hw'
  obtain ⟨⟨dq, osq⟩, hw''⟩ := hw'
  subst hw''
  have hbb := below_regrown W dq osq
  generalize Sort.grow (redrawn W dq) osq = w1 at *
  clear y0 y1 y2 y3 y4 y5 y6
  have HB1 := Lib.hid (Kit.then_ HB.out hbb); clear hbb
  go_wp2_with fail
  refine (HM.out _).mono ?_; rintro e w2 ⟨rfl, hb⟩
  have HB2 := Lib.hid (Kit.then_ HB1.out hb); clear hb
  go_wp2_with fail
  go_ret2
  exact ⟨rfl, HB2.out⟩

set_option maxRecDepth 100000 in
theorem rnext_near (s : Scr) (t : Int) (w : World) (h : s.ok = true) (h0 : 0 ≤ t) (h1 : t < 1099511627776) (h2 : (t / (s.lines * s.columns) + 1) * (s.lines * s.columns) ≤ 1099511627776) :
    Calls Try.prog 47 #[s.val, .int .i64 t] w fun e w' => e = .returned (.tuple #[.int .i64 ((t / (s.lines * s.columns) + 1) * (s.lines * s.columns)), .bool true]) ∧ Below w.heap.size w w' := by
  have hc := ref02_calls s
  rw [Scr.code_yes h] at hc
  have HC := Lib.hid hc; clear hc
  have hl := ref02_length s
  rw [Scr.len_yes h] at hl
  have HL := Lib.hid hl; clear hl
  obtain ⟨_, _, c1, c2, _, _, _, _, _, _, _, _, _, _, _, _, _, _, _, _, n1, n2⟩ := s.fits h
  generalize s.lines * s.columns = N at *
  have dn : (N == 0) = false := beq_eq_false_iff_ne.2 (by omega)
  have b1 : t / N * N ≤ t := Int.ediv_mul_le _ (by omega)
  have b0 : 0 ≤ t / N := Int.ediv_nonneg h0 (by omega)
  have b3 : t / N ≤ t := Int.ediv_le_self _ h0
  have b2 : 0 ≤ t / N * N := Int.mul_nonneg b0 (by omega)
  have b4 : (t / N + 1) * N = t / N * N + N := by rw [Int.add_mul, Int.one_mul]
  have b5 : 0 ≤ (t / N + 1) * N := by omega
  have b6 : (t / N + 1) * N ≤ 1099511787776 := by omega
  clear b4 b1 b2
  have hm := rmay_calls ((t / N + 1) * N)
  rw [show mayB ((t / N + 1) * N) = true by unfold mayB; rw [decide_eq_true b5, decide_eq_true h2]; rfl] at hm
  have HM := Lib.hid hm; clear hm
  have d1 : decide (1099511627776 ≤ t) = false := decide_eq_false (by omega)
  have d2 : decide (t < 0) = false := decide_eq_false (by omega)
  unfold Scr.val Scr.vals at *
  go_enter Try.func47, Try.ntmps47
  go_wp2_with fail
  refine (HC.out _).mono ?_; rintro e W ⟨rfl, hb⟩
  have B0 := Kit.kept hb (Kit.blk1 _ _)
  have hB := Kit.then_ (Kit.below1 _ _) hb
  clear hb
  have a0 : W.cell? ⟨w.heap.size, 0, none⟩ = some (.int .i64 s.lines) := Kit.cell B0 0 _ rfl
  have a1 : W.cell? ⟨w.heap.size, 1, none⟩ = some (.int .i64 s.columns) := Kit.cell B0 1 _ rfl
  have a2 : W.cell? ⟨w.heap.size, 2, none⟩ = some (.int .i64 s.top) := Kit.cell B0 2 _ rfl
  have a3 : W.cell? ⟨w.heap.size, 3, none⟩ = some (.int .i64 s.rows) := Kit.cell B0 3 _ rfl
  have a4 : W.cell? ⟨w.heap.size, 4, none⟩ = some (.int .i64 s.left) := Kit.cell B0 4 _ rfl
  have a5 : W.cell? ⟨w.heap.size, 5, none⟩ = some (.int .i64 s.wide) := Kit.cell B0 5 _ rfl
  have a6 : W.cell? ⟨w.heap.size, 6, none⟩ = some (.int .i64 s.pulse) := Kit.cell B0 6 _ rfl
  have y0 := fun d os => cell_regrown a0 d os
  have y1 := fun d os => cell_regrown a1 d os
  have y2 := fun d os => cell_regrown a2 d os
  have y3 := fun d os => cell_regrown a3 d os
  have y4 := fun d os => cell_regrown a4 d os
  have y5 := fun d os => cell_regrown a5 d os
  have y6 := fun d os => cell_regrown a6 d os
  clear a0 a1 a2 a3 a4 a5 a6 B0
  have HB := Lib.hid hB; clear hB
  go_wp2_with fail
  refine wp_region_quiet_below (by kernel_rfl) (by kernel_rfl) ?_
  repeat (go_big_quiet_step ((exact Calls.regrown_of (HL.out _))))
  refine wpQuiet_nil ?_
  intro _ hw'
  obtain ⟨⟨dq, osq⟩, hw''⟩ := hw'
  subst hw''
  have hbb := below_regrown W dq osq
  generalize Sort.grow (redrawn W dq) osq = w1 at *
  clear y0 y1 y2 y3 y4 y5 y6
  have HB1 := Lib.hid (Kit.then_ HB.out hbb); clear hbb
  go_wp2_with fail
  refine (HM.out _).mono ?_; rintro e w2 ⟨rfl, hb⟩
  have HB2 := Lib.hid (Kit.then_ HB1.out hb); clear hb
  go_wp2_with fail
  go_ret2
  exact ⟨rfl, HB2.out⟩

theorem rnext_calls (s : Scr) (t : Int) (w : World) :
    Calls Try.prog 47 #[s.val, .int .i64 t] w fun e w' => e = .returned (.tuple #[.int .i64 (s.nextV t).1, .bool (s.nextV t).2]) ∧ Below w.heap.size w w' := by
  unfold Scr.nextV
  cases h : s.ok
  · rw [if_pos (.inl rfl)]; exact rnext_no s t w h
  by_cases h1 : 1099511627776 ≤ t
  · rw [if_pos (.inr h1)]; exact rnext_late s t w h h1
  rw [if_neg (by simp; omega)]
  by_cases h2 : t < 0
  · rw [if_pos h2]; exact rnext_neg s t w h h2
  rw [if_neg h2]
  by_cases h3 : 1099511627776 < (t / (s.lines * s.columns) + 1) * (s.lines * s.columns)
  · rw [if_pos h3]; exact rnext_far s t w h (by omega) (by omega) h3
  rw [if_neg h3]
  exact rnext_near s t w h (by omega) (by omega) (by omega)
end Go.Proofs.YthbbbmomlehimaaR.Ts
