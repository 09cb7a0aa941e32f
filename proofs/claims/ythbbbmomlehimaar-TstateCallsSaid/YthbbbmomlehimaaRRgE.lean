import Derived.Test.YthbbbmomlehimaaRRgB
import Derived.Test.YthbbbmomlehimaaRTsP
set_option linter.unusedVariables false
namespace Go.Proofs.YthbbbmomlehimaaR.Ts
open Go.RowKit Oc

set_option maxRecDepth 100000 in
theorem rpulse_no (s : Scr) (t : Int) (w : World) (h : s.ok = false) :
    Calls Try.prog 53 #[s.val, .int .i64 t] w fun e w' => e = .returned (.bool (false)) ∧ Below w.heap.size w w' := by
  have hc := ref02_calls s
  rw [Scr.code_no h] at hc
  have HC := Lib.hid hc; clear hc h
  have HM := HC; have HL := HC
  unfold Scr.val Scr.vals at *
  go_enter Try.func53, Try.ntmps53
  go_wp2_with fail
  have B0 := Kit.blk1 w (.cells #[.int .i64 s.lines, .int .i64 s.columns, .int .i64 s.top, .int .i64 s.rows, .int .i64 s.left, .int .i64 s.wide, .int .i64 s.pulse] 40 (0, 0))
  have hB := Kit.below1 w (.cells #[.int .i64 s.lines, .int .i64 s.columns, .int .i64 s.top, .int .i64 s.rows, .int .i64 s.left, .int .i64 s.wide, .int .i64 s.pulse] 40 (0, 0))
  generalize w.alloc (.cells #[.int .i64 s.lines, .int .i64 s.columns, .int .i64 s.top, .int .i64 s.rows, .int .i64 s.left, .int .i64 s.wide, .int .i64 s.pulse] 40 (0, 0)) = W at *
  have a0 : W.cell? ⟨w.heap.size, 0, none⟩ = some (.int .i64 s.lines) := Kit.cell B0 0 _ rfl
  have a1 : W.cell? ⟨w.heap.size, 1, none⟩ = some (.int .i64 s.columns) := Kit.cell B0 1 _ rfl
  have a2 : W.cell? ⟨w.heap.size, 2, none⟩ = some (.int .i64 s.top) := Kit.cell B0 2 _ rfl
  have a3 : W.cell? ⟨w.heap.size, 3, none⟩ = some (.int .i64 s.rows) := Kit.cell B0 3 _ rfl
  have a4 : W.cell? ⟨w.heap.size, 4, none⟩ = some (.int .i64 s.left) := Kit.cell B0 4 _ rfl
  have a5 : W.cell? ⟨w.heap.size, 5, none⟩ = some (.int .i64 s.wide) := Kit.cell B0 5 _ rfl
  have a6 : W.cell? ⟨w.heap.size, 6, none⟩ = some (.int .i64 s.pulse) := Kit.cell B0 6 _ rfl
  have y0 := fun d os => cell_regrown a0 d os
  have y1 := fun d os => cell_regrown a1 d os
  have y2 := fun d os => cell_regrown a2 d os
  have y3 := fun d os => cell_regrown a3 d os
  have y4 := fun d os => cell_regrown a4 d os
  have y5 := fun d os => cell_regrown a5 d os
  have y6 := fun d os => cell_regrown a6 d os
  clear a0 a1 a2 a3 a4 a5 a6 B0
  have HB := Lib.hid hB; clear hB
  refine wp_region_quiet_below (by kernel_rfl) (by kernel_rfl) ?_
  repeat (go_big_quiet_step ((first | exact Calls.regrown_of (HC.out _) | exact Calls.regrown_of (HM.out _) | exact Calls.regrown_of (HL.out _))))
  refine wpQuiet_nil ?_
  intro _ hw'
  obtain ⟨⟨dq, osq⟩, hw''⟩ := hw'
  subst hw''
  have hbb := below_regrown W dq osq
  generalize Sort.grow (redrawn W dq) osq = w1 at *
  clear y0 y1 y2 y3 y4 y5 y6
  have HB1 := Lib.hid (Kit.then_ HB.out hbb); clear hbb
  go_wp2_with fail
  go_ret
  exact ⟨rfl, HB1.out⟩

set_option maxRecDepth 100000 in
theorem rpulse_out (s : Scr) (t : Int) (w : World) (h : s.ok = true) (ht : t < 0 ∨ 1099511627776 < t) :
    Calls Try.prog 53 #[s.val, .int .i64 t] w fun e w' => e = .returned (.bool (false)) ∧ Below w.heap.size w w' := by
  have hc := ref02_calls s
  rw [Scr.code_yes h] at hc
  have HC := Lib.hid hc; clear hc
  have hl := ref02_length s
  rw [Scr.len_yes h] at hl
  have HL := Lib.hid hl; clear hl
  obtain ⟨_, _, c1, c2, _, _, _, _, _, _, _, _, _, p1, p2, _, _, _, _, _, n1, n2⟩ := s.fits h
  have hm := rmay_calls t
  rw [show mayB t = false by
      unfold mayB
      rcases ht with ht | ht
      · rw [decide_eq_false (show ¬ 0 ≤ t by omega), Bool.false_and]
      · rw [decide_eq_false (show ¬ t ≤ 1099511627776 by omega), Bool.and_false]] at hm
  have HM := Lib.hid hm; clear hm ht
  unfold Scr.val Scr.vals at *
  go_enter Try.func53, Try.ntmps53
  go_wp2_with fail
  have B0 := Kit.blk1 w (.cells #[.int .i64 s.lines, .int .i64 s.columns, .int .i64 s.top, .int .i64 s.rows, .int .i64 s.left, .int .i64 s.wide, .int .i64 s.pulse] 40 (0, 0))
  have hB := Kit.below1 w (.cells #[.int .i64 s.lines, .int .i64 s.columns, .int .i64 s.top, .int .i64 s.rows, .int .i64 s.left, .int .i64 s.wide, .int .i64 s.pulse] 40 (0, 0))
  generalize w.alloc (.cells #[.int .i64 s.lines, .int .i64 s.columns, .int .i64 s.top, .int .i64 s.rows, .int .i64 s.left, .int .i64 s.wide, .int .i64 s.pulse] 40 (0, 0)) = W at *
  have a0 : W.cell? ⟨w.heap.size, 0, none⟩ = some (.int .i64 s.lines) := Kit.cell B0 0 _ rfl
  have a1 : W.cell? ⟨w.heap.size, 1, none⟩ = some (.int .i64 s.columns) := Kit.cell B0 1 _ rfl
  have a2 : W.cell? ⟨w.heap.size, 2, none⟩ = some (.int .i64 s.top) := Kit.cell B0 2 _ rfl
  have a3 : W.cell? ⟨w.heap.size, 3, none⟩ = some (.int .i64 s.rows) := Kit.cell B0 3 _ rfl
  have a4 : W.cell? ⟨w.heap.size, 4, none⟩ = some (.int .i64 s.left) := Kit.cell B0 4 _ rfl
  have a5 : W.cell? ⟨w.heap.size, 5, none⟩ = some (.int .i64 s.wide) := Kit.cell B0 5 _ rfl
  have a6 : W.cell? ⟨w.heap.size, 6, none⟩ = some (.int .i64 s.pulse) := Kit.cell B0 6 _ rfl
  have y0 := fun d os => cell_regrown a0 d os
  have y1 := fun d os => cell_regrown a1 d os
  have y2 := fun d os => cell_regrown a2 d os
  have y3 := fun d os => cell_regrown a3 d os
  have y4 := fun d os => cell_regrown a4 d os
  have y5 := fun d os => cell_regrown a5 d os
  have y6 := fun d os => cell_regrown a6 d os
  clear a0 a1 a2 a3 a4 a5 a6 B0
  have HB := Lib.hid hB; clear hB
  refine wp_region_quiet_below (by kernel_rfl) (by kernel_rfl) ?_
  repeat (go_big_quiet_step ((first | exact Calls.regrown_of (HC.out _) | exact Calls.regrown_of (HM.out _) | exact Calls.regrown_of (HL.out _))))
  refine wpQuiet_nil ?_
  intro _ hw'
  obtain ⟨⟨dq, osq⟩, hw''⟩ := hw'
  subst hw''
  have hbb := below_regrown W dq osq
  generalize Sort.grow (redrawn W dq) osq = w1 at *
  clear y0 y1 y2 y3 y4 y5 y6
  have HB1 := Lib.hid (Kit.then_ HB.out hbb); clear hbb
  go_wp2_with fail
  go_ret
  exact ⟨rfl, HB1.out⟩

set_option maxRecDepth 100000 in
theorem rpulse_in (s : Scr) (t : Int) (w : World) (h : s.ok = true) (h1 : 0 ≤ t) (h2 : t ≤ 1099511627776) :
    Calls Try.prog 53 #[s.val, .int .i64 t] w fun e w' => e = .returned (.bool (decide (t % (s.lines * s.columns) < s.pulse))) ∧ Below w.heap.size w w' := by
  have hc := ref02_calls s
  rw [Scr.code_yes h] at hc
  have HC := Lib.hid hc; clear hc
  have hl := ref02_length s
  rw [Scr.len_yes h] at hl
  have HL := Lib.hid hl; clear hl
  obtain ⟨_, _, c1, c2, _, _, _, _, _, _, _, _, _, p1, p2, _, _, _, _, _, n1, n2⟩ := s.fits h
  have hm := rmay_calls t
  rw [show mayB t = true by simp [mayB, h1, h2]] at hm
  have HM := Lib.hid hm; clear hm
  have hm : 0 ≤ t % (s.lines * s.columns) := Int.emod_nonneg _ (by omega)
  have hm2 : t % (s.lines * s.columns) < s.lines * s.columns := Int.emod_lt_of_pos _ (by omega)
  generalize hN : s.lines * s.columns = N at *
  have dn : (N == 0) = false := beq_eq_false_iff_ne.2 (by omega)
  have HN := Lib.hid hN; clear hN
  unfold Scr.val Scr.vals at *
  go_enter Try.func53, Try.ntmps53
  go_wp2_with fail
  have B0 := Kit.blk1 w (.cells #[.int .i64 s.lines, .int .i64 s.columns, .int .i64 s.top, .int .i64 s.rows, .int .i64 s.left, .int .i64 s.wide, .int .i64 s.pulse] 40 (0, 0))
  have hB := Kit.below1 w (.cells #[.int .i64 s.lines, .int .i64 s.columns, .int .i64 s.top, .int .i64 s.rows, .int .i64 s.left, .int .i64 s.wide, .int .i64 s.pulse] 40 (0, 0))
  generalize w.alloc (.cells #[.int .i64 s.lines, .int .i64 s.columns, .int .i64 s.top, .int .i64 s.rows, .int .i64 s.left, .int .i64 s.wide, .int .i64 s.pulse] 40 (0, 0)) = W at *
  have a0 : W.cell? ⟨w.heap.size, 0, none⟩ = some (.int .i64 s.lines) := Kit.cell B0 0 _ rfl
  have a1 : W.cell? ⟨w.heap.size, 1, none⟩ = some (.int .i64 s.columns) := Kit.cell B0 1 _ rfl
  have a2 : W.cell? ⟨w.heap.size, 2, none⟩ = some (.int .i64 s.top) := Kit.cell B0 2 _ rfl
  have a3 : W.cell? ⟨w.heap.size, 3, none⟩ = some (.int .i64 s.rows) := Kit.cell B0 3 _ rfl
  have a4 : W.cell? ⟨w.heap.size, 4, none⟩ = some (.int .i64 s.left) := Kit.cell B0 4 _ rfl
  have a5 : W.cell? ⟨w.heap.size, 5, none⟩ = some (.int .i64 s.wide) := Kit.cell B0 5 _ rfl
  have a6 : W.cell? ⟨w.heap.size, 6, none⟩ = some (.int .i64 s.pulse) := Kit.cell B0 6 _ rfl
  have y0 := fun d os => cell_regrown a0 d os
  have y1 := fun d os => cell_regrown a1 d os
  have y2 := fun d os => cell_regrown a2 d os
  have y3 := fun d os => cell_regrown a3 d os
  have y4 := fun d os => cell_regrown a4 d os
  have y5 := fun d os => cell_regrown a5 d os
  have y6 := fun d os => cell_regrown a6 d os
  clear a0 a1 a2 a3 a4 a5 a6 B0
  have HB := Lib.hid hB; clear hB
  refine wp_region_quiet_below (by kernel_rfl) (by kernel_rfl) ?_
  repeat (go_big_quiet_step ((first | exact Calls.regrown_of (HC.out _) | exact Calls.regrown_of (HM.out _) | exact Calls.regrown_of (HL.out _))))
  refine wpQuiet_nil ?_
  intro _ hw'
  obtain ⟨⟨dq, osq⟩, hw''⟩ := hw'
  subst hw''
  have hbb := below_regrown W dq osq
  generalize Sort.grow (redrawn W dq) osq = w1 at *
  clear y0 y1 y2 y3 y4 y5 y6
  have HB1 := Lib.hid (Kit.then_ HB.out hbb); clear hbb
  go_wp2_with fail
  go_ret
  exact ⟨rfl, HB1.out⟩

theorem rpulse_calls (s : Scr) (t : Int) (w : World) :
    Calls Try.prog 53 #[s.val, .int .i64 t] w fun e w' => e = .returned (.bool (s.pulseB t)) ∧ Below w.heap.size w w' := by
  cases h : s.ok
  · rw [show s.pulseB t = false by simp [Scr.pulseB, h]]; exact rpulse_no s t w h
  by_cases h1 : 0 ≤ t
  case neg => rw [show s.pulseB t = false by simp [Scr.pulseB, h1]]; exact rpulse_out s t w h (.inl (by omega))
  by_cases h2 : t ≤ 1099511627776
  case neg => rw [show s.pulseB t = false by simp [Scr.pulseB, h2]]; exact rpulse_out s t w h (.inr (by omega))
  rw [show s.pulseB t = decide (t % (s.lines * s.columns) < s.pulse) by simp [Scr.pulseB, h, h1, h2]]
  exact rpulse_in s t w h h1 h2

set_option maxRecDepth 100000 in
theorem rbelow_near0 (s : Scr) (t : Int) (w : World) (h : s.ok = true) (h0 : 0 < t) (ht : t ≤ 1099511627777) (hP : s.pulse < t % (s.lines * s.columns)) :
    Calls Try.prog 118 #[s.val, .int .i64 t] w fun e w' => e = .returned (.int .i64 (uptoV (s.lines * s.columns) s.pulse (t))) ∧ Below w.heap.size w w' := by
  have e : uptoV (s.lines * s.columns) s.pulse (t) = t / (s.lines * s.columns) * s.pulse + s.pulse := by unfold uptoV; rw [if_pos hP]
  have hl := ref02_length s
  rw [Scr.len_yes h] at hl
  obtain ⟨_, _, c1, c2, _, _, _, _, _, _, _, _, _, p1, p2, _, _, _, _, _, n1, n2⟩ := s.fits h
  clear h
  unfold Scr.val Scr.vals at *
  rw [e]; clear e
  have HL := Lib.hid hl; clear hl
  have HC := HL; have HM := HL
  generalize s.lines * s.columns = N at *
  have dn : (N == 0) = false := beq_eq_false_iff_ne.2 (by omega)
  have d0 : decide (t ≤ 0) = false := decide_eq_false (by omega)
  have q0 : 0 ≤ t / N := Int.ediv_nonneg (by omega) (by omega)
  have q1 : t / N ≤ t := Int.ediv_le_self _ (by omega)
  have q2 : 0 ≤ t / N * s.pulse := Int.mul_nonneg q0 (by omega)
  have q3 : t / N * s.pulse ≤ 1099511627777 * 64 := Int.mul_le_mul (by omega) p2 (by omega) (by omega)
  have m0 : 0 ≤ t % N := Int.emod_nonneg _ (by omega)
  have m1 : t % N < N := Int.emod_lt_of_pos _ (by omega)
  go_enter Try.func118, Try.ntmps118
  go_wp2_with fail
  have B0 := Kit.blk1 w (.cells #[.int .i64 s.lines, .int .i64 s.columns, .int .i64 s.top, .int .i64 s.rows, .int .i64 s.left, .int .i64 s.wide, .int .i64 s.pulse] 40 (0, 0))
  have hB := Kit.below1 w (.cells #[.int .i64 s.lines, .int .i64 s.columns, .int .i64 s.top, .int .i64 s.rows, .int .i64 s.left, .int .i64 s.wide, .int .i64 s.pulse] 40 (0, 0))
  generalize w.alloc (.cells #[.int .i64 s.lines, .int .i64 s.columns, .int .i64 s.top, .int .i64 s.rows, .int .i64 s.left, .int .i64 s.wide, .int .i64 s.pulse] 40 (0, 0)) = W at *
  have a0 : W.cell? ⟨w.heap.size, 0, none⟩ = some (.int .i64 s.lines) := Kit.cell B0 0 _ rfl
  have a1 : W.cell? ⟨w.heap.size, 1, none⟩ = some (.int .i64 s.columns) := Kit.cell B0 1 _ rfl
  have a2 : W.cell? ⟨w.heap.size, 2, none⟩ = some (.int .i64 s.top) := Kit.cell B0 2 _ rfl
  have a3 : W.cell? ⟨w.heap.size, 3, none⟩ = some (.int .i64 s.rows) := Kit.cell B0 3 _ rfl
  have a4 : W.cell? ⟨w.heap.size, 4, none⟩ = some (.int .i64 s.left) := Kit.cell B0 4 _ rfl
  have a5 : W.cell? ⟨w.heap.size, 5, none⟩ = some (.int .i64 s.wide) := Kit.cell B0 5 _ rfl
  have a6 : W.cell? ⟨w.heap.size, 6, none⟩ = some (.int .i64 s.pulse) := Kit.cell B0 6 _ rfl
  have y0 := fun d os => cell_regrown a0 d os
  have y1 := fun d os => cell_regrown a1 d os
  have y2 := fun d os => cell_regrown a2 d os
  have y3 := fun d os => cell_regrown a3 d os
  have y4 := fun d os => cell_regrown a4 d os
  have y5 := fun d os => cell_regrown a5 d os
  have y6 := fun d os => cell_regrown a6 d os
  clear a0 a1 a2 a3 a4 a5 a6 B0
  have HB := Lib.hid hB; clear hB
  refine wp_region_quiet_below (by kernel_rfl) (by kernel_rfl) ?_
  repeat (go_big_quiet_step ((first | exact Calls.regrown_of (HC.out _) | exact Calls.regrown_of (HM.out _) | exact Calls.regrown_of (HL.out _))))
  refine wpQuiet_nil ?_
  intro _ hw'
  obtain ⟨⟨dq, osq⟩, hw''⟩ := hw'
  subst hw''
  have hbb := below_regrown W dq osq
  generalize Sort.grow (redrawn W dq) osq = w1 at *
  clear y0 y1 y2 y3 y4 y5 y6
  have HB1 := Lib.hid (Kit.then_ HB.out hbb); clear hbb
  go_wp2_with fail
  go_ret
  exact ⟨rfl, HB1.out⟩

set_option maxRecDepth 100000 in
theorem rbelow_near1 (s : Scr) (t : Int) (w : World) (h : s.ok = true) (h0 : 0 < t) (ht : t ≤ 1099511627777) (hP : t % (s.lines * s.columns) ≤ s.pulse) :
    Calls Try.prog 118 #[s.val, .int .i64 t] w fun e w' => e = .returned (.int .i64 (uptoV (s.lines * s.columns) s.pulse (t))) ∧ Below w.heap.size w w' := by
  have e : uptoV (s.lines * s.columns) s.pulse (t) = t / (s.lines * s.columns) * s.pulse + t % (s.lines * s.columns) := by unfold uptoV; rw [if_neg (by omega)]
  have hl := ref02_length s
  rw [Scr.len_yes h] at hl
  obtain ⟨_, _, c1, c2, _, _, _, _, _, _, _, _, _, p1, p2, _, _, _, _, _, n1, n2⟩ := s.fits h
  clear h
  unfold Scr.val Scr.vals at *
  rw [e]; clear e
  have HL := Lib.hid hl; clear hl
  have HC := HL; have HM := HL
  generalize s.lines * s.columns = N at *
  have dn : (N == 0) = false := beq_eq_false_iff_ne.2 (by omega)
  have d0 : decide (t ≤ 0) = false := decide_eq_false (by omega)
  have q0 : 0 ≤ t / N := Int.ediv_nonneg (by omega) (by omega)
  have q1 : t / N ≤ t := Int.ediv_le_self _ (by omega)
  have q2 : 0 ≤ t / N * s.pulse := Int.mul_nonneg q0 (by omega)
  have q3 : t / N * s.pulse ≤ 1099511627777 * 64 := Int.mul_le_mul (by omega) p2 (by omega) (by omega)
  have m0 : 0 ≤ t % N := Int.emod_nonneg _ (by omega)
  have m1 : t % N < N := Int.emod_lt_of_pos _ (by omega)
  go_enter Try.func118, Try.ntmps118
  go_wp2_with fail
  have B0 := Kit.blk1 w (.cells #[.int .i64 s.lines, .int .i64 s.columns, .int .i64 s.top, .int .i64 s.rows, .int .i64 s.left, .int .i64 s.wide, .int .i64 s.pulse] 40 (0, 0))
  have hB := Kit.below1 w (.cells #[.int .i64 s.lines, .int .i64 s.columns, .int .i64 s.top, .int .i64 s.rows, .int .i64 s.left, .int .i64 s.wide, .int .i64 s.pulse] 40 (0, 0))
  generalize w.alloc (.cells #[.int .i64 s.lines, .int .i64 s.columns, .int .i64 s.top, .int .i64 s.rows, .int .i64 s.left, .int .i64 s.wide, .int .i64 s.pulse] 40 (0, 0)) = W at *
  have a0 : W.cell? ⟨w.heap.size, 0, none⟩ = some (.int .i64 s.lines) := Kit.cell B0 0 _ rfl
  have a1 : W.cell? ⟨w.heap.size, 1, none⟩ = some (.int .i64 s.columns) := Kit.cell B0 1 _ rfl
  have a2 : W.cell? ⟨w.heap.size, 2, none⟩ = some (.int .i64 s.top) := Kit.cell B0 2 _ rfl
  have a3 : W.cell? ⟨w.heap.size, 3, none⟩ = some (.int .i64 s.rows) := Kit.cell B0 3 _ rfl
  have a4 : W.cell? ⟨w.heap.size, 4, none⟩ = some (.int .i64 s.left) := Kit.cell B0 4 _ rfl
  have a5 : W.cell? ⟨w.heap.size, 5, none⟩ = some (.int .i64 s.wide) := Kit.cell B0 5 _ rfl
  have a6 : W.cell? ⟨w.heap.size, 6, none⟩ = some (.int .i64 s.pulse) := Kit.cell B0 6 _ rfl
  have y0 := fun d os => cell_regrown a0 d os
  have y1 := fun d os => cell_regrown a1 d os
  have y2 := fun d os => cell_regrown a2 d os
  have y3 := fun d os => cell_regrown a3 d os
  have y4 := fun d os => cell_regrown a4 d os
  have y5 := fun d os => cell_regrown a5 d os
  have y6 := fun d os => cell_regrown a6 d os
  clear a0 a1 a2 a3 a4 a5 a6 B0
  have HB := Lib.hid hB; clear hB
  refine wp_region_quiet_below (by kernel_rfl) (by kernel_rfl) ?_
  repeat (go_big_quiet_step ((first | exact Calls.regrown_of (HC.out _) | exact Calls.regrown_of (HM.out _) | exact Calls.regrown_of (HL.out _))))
  refine wpQuiet_nil ?_
  intro _ hw'
  obtain ⟨⟨dq, osq⟩, hw''⟩ := hw'
  subst hw''
  have hbb := below_regrown W dq osq
  generalize Sort.grow (redrawn W dq) osq = w1 at *
  clear y0 y1 y2 y3 y4 y5 y6
  have HB1 := Lib.hid (Kit.then_ HB.out hbb); clear hbb
  go_wp2_with fail
  go_ret
  exact ⟨rfl, HB1.out⟩

set_option maxRecDepth 100000 in
theorem rbelow_far0 (s : Scr) (t : Int) (w : World) (h : s.ok = true) (h0 : 0 < t) (ht : 1099511627777 < t) (hP : s.pulse < 1099511627777 % (s.lines * s.columns)) :
    Calls Try.prog 118 #[s.val, .int .i64 t] w fun e w' => e = .returned (.int .i64 (uptoV (s.lines * s.columns) s.pulse (1099511627777))) ∧ Below w.heap.size w w' := by
  have e : uptoV (s.lines * s.columns) s.pulse (1099511627777) = 1099511627777 / (s.lines * s.columns) * s.pulse + s.pulse := by unfold uptoV; rw [if_pos hP]
  have hl := ref02_length s
  rw [Scr.len_yes h] at hl
  obtain ⟨_, _, c1, c2, _, _, _, _, _, _, _, _, _, p1, p2, _, _, _, _, _, n1, n2⟩ := s.fits h
  clear h
  unfold Scr.val Scr.vals at *
  rw [e]; clear e
  have HL := Lib.hid hl; clear hl
  have HC := HL; have HM := HL
  generalize s.lines * s.columns = N at *
  have dn : (N == 0) = false := beq_eq_false_iff_ne.2 (by omega)
  have d0 : decide (t ≤ 0) = false := decide_eq_false (by omega)
  have q0 : 0 ≤ 1099511627777 / N := Int.ediv_nonneg (by omega) (by omega)
  have q1 : 1099511627777 / N ≤ 1099511627777 := Int.ediv_le_self _ (by omega)
  have q2 : 0 ≤ 1099511627777 / N * s.pulse := Int.mul_nonneg q0 (by omega)
  have q3 : 1099511627777 / N * s.pulse ≤ 1099511627777 * 64 := Int.mul_le_mul (by omega) p2 (by omega) (by omega)
  have m0 : 0 ≤ 1099511627777 % N := Int.emod_nonneg _ (by omega)
  have m1 : 1099511627777 % N < N := Int.emod_lt_of_pos _ (by omega)
  go_enter Try.func118, Try.ntmps118
  go_wp2_with fail
  have B0 := Kit.blk1 w (.cells #[.int .i64 s.lines, .int .i64 s.columns, .int .i64 s.top, .int .i64 s.rows, .int .i64 s.left, .int .i64 s.wide, .int .i64 s.pulse] 40 (0, 0))
  have hB := Kit.below1 w (.cells #[.int .i64 s.lines, .int .i64 s.columns, .int .i64 s.top, .int .i64 s.rows, .int .i64 s.left, .int .i64 s.wide, .int .i64 s.pulse] 40 (0, 0))
  generalize w.alloc (.cells #[.int .i64 s.lines, .int .i64 s.columns, .int .i64 s.top, .int .i64 s.rows, .int .i64 s.left, .int .i64 s.wide, .int .i64 s.pulse] 40 (0, 0)) = W at *
  have a0 : W.cell? ⟨w.heap.size, 0, none⟩ = some (.int .i64 s.lines) := Kit.cell B0 0 _ rfl
  have a1 : W.cell? ⟨w.heap.size, 1, none⟩ = some (.int .i64 s.columns) := Kit.cell B0 1 _ rfl
  have a2 : W.cell? ⟨w.heap.size, 2, none⟩ = some (.int .i64 s.top) := Kit.cell B0 2 _ rfl
  have a3 : W.cell? ⟨w.heap.size, 3, none⟩ = some (.int .i64 s.rows) := Kit.cell B0 3 _ rfl
  have a4 : W.cell? ⟨w.heap.size, 4, none⟩ = some (.int .i64 s.left) := Kit.cell B0 4 _ rfl
  have a5 : W.cell? ⟨w.heap.size, 5, none⟩ = some (.int .i64 s.wide) := Kit.cell B0 5 _ rfl
  have a6 : W.cell? ⟨w.heap.size, 6, none⟩ = some (.int .i64 s.pulse) := Kit.cell B0 6 _ rfl
  have y0 := fun d os => cell_regrown a0 d os
  have y1 := fun d os => cell_regrown a1 d os
  have y2 := fun d os => cell_regrown a2 d os
  have y3 := fun d os => cell_regrown a3 d os
  have y4 := fun d os => cell_regrown a4 d os
  have y5 := fun d os => cell_regrown a5 d os
  have y6 := fun d os => cell_regrown a6 d os
  clear a0 a1 a2 a3 a4 a5 a6 B0
  have HB := Lib.hid hB; clear hB
  refine wp_region_quiet_below (by kernel_rfl) (by kernel_rfl) ?_
  repeat (go_big_quiet_step ((first | exact Calls.regrown_of (HC.out _) | exact Calls.regrown_of (HM.out _) | exact Calls.regrown_of (HL.out _))))
  refine wpQuiet_nil ?_
  intro _ hw'
  obtain ⟨⟨dq, osq⟩, hw''⟩ := hw'
  subst hw''
  have hbb := below_regrown W dq osq
  generalize Sort.grow (redrawn W dq) osq = w1 at *
  clear y0 y1 y2 y3 y4 y5 y6
  have HB1 := Lib.hid (Kit.then_ HB.out hbb); clear hbb
  go_wp2_with fail
  go_ret
  exact ⟨rfl, HB1.out⟩

set_option maxRecDepth 100000 in
theorem rbelow_far1 (s : Scr) (t : Int) (w : World) (h : s.ok = true) (h0 : 0 < t) (ht : 1099511627777 < t) (hP : 1099511627777 % (s.lines * s.columns) ≤ s.pulse) :
    Calls Try.prog 118 #[s.val, .int .i64 t] w fun e w' => e = .returned (.int .i64 (uptoV (s.lines * s.columns) s.pulse (1099511627777))) ∧ Below w.heap.size w w' := by
  have e : uptoV (s.lines * s.columns) s.pulse (1099511627777) = 1099511627777 / (s.lines * s.columns) * s.pulse + 1099511627777 % (s.lines * s.columns) := by unfold uptoV; rw [if_neg (by omega)]
  have hl := ref02_length s
  rw [Scr.len_yes h] at hl
  obtain ⟨_, _, c1, c2, _, _, _, _, _, _, _, _, _, p1, p2, _, _, _, _, _, n1, n2⟩ := s.fits h
  clear h
  unfold Scr.val Scr.vals at *
  rw [e]; clear e
  have HL := Lib.hid hl; clear hl
  have HC := HL; have HM := HL
  generalize s.lines * s.columns = N at *
  have dn : (N == 0) = false := beq_eq_false_iff_ne.2 (by omega)
  have d0 : decide (t ≤ 0) = false := decide_eq_false (by omega)
  have q0 : 0 ≤ 1099511627777 / N := Int.ediv_nonneg (by omega) (by omega)
  have q1 : 1099511627777 / N ≤ 1099511627777 := Int.ediv_le_self _ (by omega)
  have q2 : 0 ≤ 1099511627777 / N * s.pulse := Int.mul_nonneg q0 (by omega)
  have q3 : 1099511627777 / N * s.pulse ≤ 1099511627777 * 64 := Int.mul_le_mul (by omega) p2 (by omega) (by omega)
  have m0 : 0 ≤ 1099511627777 % N := Int.emod_nonneg _ (by omega)
  have m1 : 1099511627777 % N < N := Int.emod_lt_of_pos _ (by omega)
  go_enter Try.func118, Try.ntmps118
  go_wp2_with fail
  have B0 := Kit.blk1 w (.cells #[.int .i64 s.lines, .int .i64 s.columns, .int .i64 s.top, .int .i64 s.rows, .int .i64 s.left, .int .i64 s.wide, .int .i64 s.pulse] 40 (0, 0))
  have hB := Kit.below1 w (.cells #[.int .i64 s.lines, .int .i64 s.columns, .int .i64 s.top, .int .i64 s.rows, .int .i64 s.left, .int .i64 s.wide, .int .i64 s.pulse] 40 (0, 0))
  generalize w.alloc (.cells #[.int .i64 s.lines, .int .i64 s.columns, .int .i64 s.top, .int .i64 s.rows, .int .i64 s.left, .int .i64 s.wide, .int .i64 s.pulse] 40 (0, 0)) = W at *
  have a0 : W.cell? ⟨w.heap.size, 0, none⟩ = some (.int .i64 s.lines) := Kit.cell B0 0 _ rfl
  have a1 : W.cell? ⟨w.heap.size, 1, none⟩ = some (.int .i64 s.columns) := Kit.cell B0 1 _ rfl
  have a2 : W.cell? ⟨w.heap.size, 2, none⟩ = some (.int .i64 s.top) := Kit.cell B0 2 _ rfl
  have a3 : W.cell? ⟨w.heap.size, 3, none⟩ = some (.int .i64 s.rows) := Kit.cell B0 3 _ rfl
  have a4 : W.cell? ⟨w.heap.size, 4, none⟩ = some (.int .i64 s.left) := Kit.cell B0 4 _ rfl
  have a5 : W.cell? ⟨w.heap.size, 5, none⟩ = some (.int .i64 s.wide) := Kit.cell B0 5 _ rfl
  have a6 : W.cell? ⟨w.heap.size, 6, none⟩ = some (.int .i64 s.pulse) := Kit.cell B0 6 _ rfl
  have y0 := fun d os => cell_regrown a0 d os
  have y1 := fun d os => cell_regrown a1 d os
  have y2 := fun d os => cell_regrown a2 d os
  have y3 := fun d os => cell_regrown a3 d os
  have y4 := fun d os => cell_regrown a4 d os
  have y5 := fun d os => cell_regrown a5 d os
  have y6 := fun d os => cell_regrown a6 d os
  clear a0 a1 a2 a3 a4 a5 a6 B0
  have HB := Lib.hid hB; clear hB
  refine wp_region_quiet_below (by kernel_rfl) (by kernel_rfl) ?_
  repeat (go_big_quiet_step ((first | exact Calls.regrown_of (HC.out _) | exact Calls.regrown_of (HM.out _) | exact Calls.regrown_of (HL.out _))))
  refine wpQuiet_nil ?_
  intro _ hw'
  obtain ⟨⟨dq, osq⟩, hw''⟩ := hw'
  subst hw''
  have hbb := below_regrown W dq osq
  generalize Sort.grow (redrawn W dq) osq = w1 at *
  clear y0 y1 y2 y3 y4 y5 y6
  have HB1 := Lib.hid (Kit.then_ HB.out hbb); clear hbb
  go_wp2_with fail
  go_ret
  exact ⟨rfl, HB1.out⟩

theorem rbelow_calls (s : Scr) (t : Int) (w : World) (h : s.ok = true) :
    Calls Try.prog 118 #[s.val, .int .i64 t] w fun e w' => e = .returned (.int .i64 (s.belowV t)) ∧ Below w.heap.size w w' := by
  unfold Scr.belowV
  by_cases h0 : t ≤ 0
  · rw [if_pos h0]
    have d0 : decide (t ≤ 0) = true := decide_eq_true h0
    unfold Scr.val
    go_enter Try.func118, Try.ntmps118
    go_wp2_with fail
    go_ret
    exact ⟨rfl, Kit.below1 _ _⟩
  rw [if_neg h0]
  by_cases h1 : t ≤ 1099511627777
  · rw [if_pos h1]
    rcases Int.lt_or_le s.pulse (t % (s.lines * s.columns)) with hP | hP
    · exact rbelow_near0 s t w h (by omega) h1 hP
    · exact rbelow_near1 s t w h (by omega) h1 hP
  · rw [if_neg h1]
    rcases Int.lt_or_le s.pulse (1099511627777 % (s.lines * s.columns)) with hP | hP
    · exact rbelow_far0 s t w h (by omega) (by omega) hP
    · exact rbelow_far1 s t w h (by omega) (by omega) hP
theorem Scr.belowV_bounds (s : Scr) (t : Int) (h : s.ok = true) : 0 ≤ s.belowV t ∧ s.belowV t ≤ 70368744177800 := by
  obtain ⟨_, _, c1, c2, _, _, _, _, _, _, _, _, _, p1, p2, _, _, _, _, _, n1, n2⟩ := s.fits h
  unfold Scr.belowV
  split
  · omega
  · exact uptoV_bounds _ _ _ (by split <;> omega) (by split <;> omega) n1 p1 p2

set_option maxRecDepth 100000 in
theorem rpulses_no (s : Scr) (f t : Int) (w : World) (h : s.ok = false) :
    Calls Try.prog 55 #[s.val, .int .i64 f, .int .i64 t] w fun e w' => e = .returned (.int .i64 (0)) ∧ Below w.heap.size w w' := by
  have hc := ref02_calls s
  rw [Scr.code_no h] at hc
  have HC := Lib.hid hc; clear hc h
  unfold Scr.val Scr.vals at *
  go_enter Try.func55, Try.ntmps55
  go_wp2_with fail
  refine (HC.out _).mono ?_; rintro e W ⟨rfl, hb⟩
  have hB := Kit.then_ (Kit.below1 _ _) hb
  have HB := Lib.hid hB; clear hB hb
  go_wp2_with fail
  go_ret
  exact ⟨rfl, HB.out⟩

set_option maxRecDepth 100000 in
theorem rpulses_none (s : Scr) (f t : Int) (w : World) (h : s.ok = true) (ht : t ≤ f) :
    Calls Try.prog 55 #[s.val, .int .i64 f, .int .i64 t] w fun e w' => e = .returned (.int .i64 (0)) ∧ Below w.heap.size w w' := by
  have hc := ref02_calls s
  rw [Scr.code_yes h] at hc
  have HC := Lib.hid hc; clear hc
  clear h
  have d1 : decide (t ≤ f) = true := decide_eq_true ht
  unfold Scr.val Scr.vals at *
  go_enter Try.func55, Try.ntmps55
  go_wp2_with fail
  refine (HC.out _).mono ?_; rintro e W ⟨rfl, hb⟩
  have hB := Kit.then_ (Kit.below1 _ _) hb
  have HB := Lib.hid hB; clear hB hb
  go_wp2_with fail
  go_ret
  exact ⟨rfl, HB.out⟩

set_option maxRecDepth 100000 in
theorem rpulses_some (s : Scr) (f t : Int) (w : World) (h : s.ok = true) (ht : f < t) :
    Calls Try.prog 55 #[s.val, .int .i64 f, .int .i64 t] w fun e w' => e = .returned (.int .i64 (s.belowV t - s.belowV f)) ∧ Below w.heap.size w w' := by
  have hc := ref02_calls s
  rw [Scr.code_yes h] at hc
  have HC := Lib.hid hc; clear hc
  have d1 : decide (t ≤ f) = false := decide_eq_false (by omega)
  have u1 := s.belowV_bounds t h
  have u2 := s.belowV_bounds f h
  have hl : ∀ x w, Calls Try.prog 118 #[s.val, .int .i64 x] w fun e w' => e = .returned (.int .i64 (s.belowV x)) ∧ Below w.heap.size w w' := fun x w => rbelow_calls s x w h
  have HL := Lib.hid hl; clear hl h
  generalize s.belowV = U at *
  unfold Scr.val Scr.vals at *
  go_enter Try.func55, Try.ntmps55
  go_wp2_with fail
  refine (HC.out _).mono ?_; rintro e W ⟨rfl, hb⟩
  have B0 := Kit.kept hb (Kit.blk1 _ _)
  have hB := Kit.then_ (Kit.below1 _ _) hb
  clear hb
  have a0 : W.cell? ⟨w.heap.size, 0, none⟩ = some (.int .i64 s.lines) := Kit.cell B0 0 _ rfl
  have a1 : W.cell? ⟨w.heap.size, 1, none⟩ = some (.int .i64 s.columns) := Kit.cell B0 1 _ rfl
  have a2 : W.cell? ⟨w.heap.size, 2, none⟩ = some (.int .i64 s.top) := Kit.cell B0 2 _ rfl
  have a3 : W.cell? ⟨w.heap.size, 3, none⟩ = some (.int .i64 s.rows) := Kit.cell B0 3 _ rfl
  have a4 : W.cell? ⟨w.heap.size, 4, none⟩ = some (.int .i64 s.left) := Kit.cell B0 4 _ rfl
  have a5 : W.cell? ⟨w.heap.size, 5, none⟩ = some (.int .i64 s.wide) := Kit.cell B0 5 _ rfl
  have a6 : W.cell? ⟨w.heap.size, 6, none⟩ = some (.int .i64 s.pulse) := Kit.cell B0 6 _ rfl
  have y0 := fun d os => cell_regrown a0 d os
  have y1 := fun d os => cell_regrown a1 d os
  have y2 := fun d os => cell_regrown a2 d os
  have y3 := fun d os => cell_regrown a3 d os
  have y4 := fun d os => cell_regrown a4 d os
  have y5 := fun d os => cell_regrown a5 d os
  have y6 := fun d os => cell_regrown a6 d os
  clear a0 a1 a2 a3 a4 a5 a6 B0
  have HB := Lib.hid hB; clear hB
  go_wp2_with fail
  refine wp_region_quiet_below (by kernel_rfl) (by kernel_rfl) ?_
  repeat (go_big_quiet_step ((exact Calls.regrown_of (HL.out _ _))))
  refine wpQuiet_nil ?_
  intro _ hw'
  obtain ⟨⟨dq, osq⟩, hw''⟩ := hw'
  subst hw''
  have hbb := below_regrown W dq osq
  generalize Sort.grow (redrawn W dq) osq = w1 at *
  clear y0 y1 y2 y3 y4 y5 y6
  have HB1 := Lib.hid (Kit.then_ HB.out hbb); clear hbb
  go_wp2_with fail
  go_ret
  exact ⟨rfl, HB1.out⟩

theorem rpulses_calls (s : Scr) (f t : Int) (w : World) :
    Calls Try.prog 55 #[s.val, .int .i64 f, .int .i64 t] w fun e w' => e = .returned (.int .i64 (s.pulsV f t)) ∧ Below w.heap.size w w' := by
  unfold Scr.pulsV
  cases h : s.ok
  · rw [if_pos (.inl rfl)]; exact rpulses_no s f t w h
  by_cases ht : t ≤ f
  · rw [if_pos (.inr ht)]; exact rpulses_none s f t w h ht
  · rw [if_neg (by simp; omega)]; exact rpulses_some s f t w h (by omega)
end Go.Proofs.YthbbbmomlehimaaR.Ts
