import Derived.Test.YthbbbmomlehimaaRTsH
import Derived.Test.YthbbbmomlehimaaRCoF
import Derived.Test.YthbbbmomlehimaaRQtA
set_option linter.unusedVariables false
namespace Go.Proofs.YthbbbmomlehimaaR.Ts
open Go.RowKit Oc

def mayB (t : Int) : Bool := decide (0 ≤ t) && decide (t ≤ 1099511627776)
theorem rmay_calls (t : Int) (w : World) : Calls Try.prog 112 #[.int .i64 t] w fun e w' => e = .returned (.bool (mayB t)) ∧ Below w.heap.size w w' := by
  unfold mayB
  by_cases h : 0 ≤ t
  · have d : decide (0 ≤ t) = true := decide_eq_true h
    rw [d, Bool.true_and]
    go_enter Try.func112, Try.ntmps112
    go_wp2_with fail
    go_ret
    exact ⟨rfl, Below.refl _ _⟩
  · have d : decide (0 ≤ t) = false := decide_eq_false h
    rw [d, Bool.false_and]
    go_enter Try.func112, Try.ntmps112
    go_wp2_with fail
    go_ret
    exact ⟨rfl, Below.refl _ _⟩

set_option maxRecDepth 100000 in
theorem rspot_yes (s : Scr) (t : Int) (h : s.ok = true) (h1 : 0 ≤ t) (h2 : t ≤ 1099511627776) (w : World) :
    Calls Try.prog 44 #[s.val, .int .i64 t] w fun e w' => e = .returned (.tuple #[(s.spot t).val, .int .i64 0]) ∧ Below w.heap.size w w' := by
  have hf := s.fits h
  have hl := ref02_length s
  rw [Scr.len_yes h] at hl
  have hc := ref02_calls s
  rw [Scr.code_yes h] at hc
  have hm := rmay_calls t
  rw [show mayB t = true by simp [mayB, h1, h2]] at hm
  clear h
  obtain ⟨_, _, c1, c2, _, _, _, _, _, _, _, _, _, _, _, _, _, _, _, _, n1, n2⟩ := hf
  have em : t % (s.lines * s.columns) % s.columns = t % s.columns := Int.emod_emod_of_dvd _ ⟨s.lines, Int.mul_comm _ _⟩
  unfold Scr.val Scr.vals Spt.val Scr.spot at *
  have HL := Lib.hid hl; have HC := Lib.hid hc; have HM := Lib.hid hm; clear hl hc hm
  go_enter Try.func44, Try.ntmps44
  go_wp2_with fail
  refine (HC.out _).mono ?_; rintro e W ⟨rfl, hb⟩
  have B0 := Kit.kept hb (Kit.blk2a _ _ _)
  have B1 := Kit.kept hb (Kit.blk2b _ _ _)
  have hB := Kit.then_ (Kit.below2 _ _ _) hb
  clear hb
  go_wp2_with fail
  refine (HM.out _).mono ?_; rintro e W2 ⟨rfl, hb⟩
  have B2 := Kit.kept hb B0
  have B3 := Kit.kept hb B1
  have hB2 := Kit.then_ hB hb
  clear hb hB B0 B1
  have hz := hB2.size
  have a0 : W2.cell? ⟨w.heap.size, 0, none⟩ = some (.int .i64 s.lines) := Kit.cell B2 0 _ rfl
  have a1 : W2.cell? ⟨w.heap.size, 1, none⟩ = some (.int .i64 s.columns) := Kit.cell B2 1 _ rfl
  have a2 : W2.cell? ⟨w.heap.size, 2, none⟩ = some (.int .i64 s.top) := Kit.cell B2 2 _ rfl
  have a3 : W2.cell? ⟨w.heap.size, 3, none⟩ = some (.int .i64 s.rows) := Kit.cell B2 3 _ rfl
  have a4 : W2.cell? ⟨w.heap.size, 4, none⟩ = some (.int .i64 s.left) := Kit.cell B2 4 _ rfl
  have a5 : W2.cell? ⟨w.heap.size, 5, none⟩ = some (.int .i64 s.wide) := Kit.cell B2 5 _ rfl
  have a6 : W2.cell? ⟨w.heap.size, 6, none⟩ = some (.int .i64 s.pulse) := Kit.cell B2 6 _ rfl
  have HB2 := Lib.hid hB2; have HX2 := Lib.hid B2; have HX3 := Lib.hid B3; clear hB2 B2 B3
  have dn : (s.lines * s.columns == 0) = false := beq_eq_false_iff_ne.2 (by omega)
  have hm1 : 0 ≤ t % (s.lines * s.columns) := Int.emod_nonneg _ (by omega)
  have hm2 : t % (s.lines * s.columns) < s.lines * s.columns := Int.emod_lt_of_pos _ (by omega)
  go_wp2_with fail
  refine (HL.out _).mono ?_; rintro e W3 ⟨rfl, hb⟩
  have B4 := Kit.kept hb HX2.out
  have B5 := Kit.kept hb HX3.out
  have hB3 := Kit.then_ HB2.out hb
  clear hb HB2 HX2 HX3 a0 a1 a2 a3 a4 a5 a6
  have a0 : W3.cell? ⟨w.heap.size, 0, none⟩ = some (.int .i64 s.lines) := Kit.cell B4 0 _ rfl
  have a1 : W3.cell? ⟨w.heap.size, 1, none⟩ = some (.int .i64 s.columns) := Kit.cell B4 1 _ rfl
  have a2 : W3.cell? ⟨w.heap.size, 2, none⟩ = some (.int .i64 s.top) := Kit.cell B4 2 _ rfl
  have a3 : W3.cell? ⟨w.heap.size, 3, none⟩ = some (.int .i64 s.rows) := Kit.cell B4 3 _ rfl
  have a4 : W3.cell? ⟨w.heap.size, 4, none⟩ = some (.int .i64 s.left) := Kit.cell B4 4 _ rfl
  have a5 : W3.cell? ⟨w.heap.size, 5, none⟩ = some (.int .i64 s.wide) := Kit.cell B4 5 _ rfl
  have a6 : W3.cell? ⟨w.heap.size, 6, none⟩ = some (.int .i64 s.pulse) := Kit.cell B4 6 _ rfl
  have l4 := Kit.lt B4
  have l5 := Kit.lt B5
  have y0 := fun d os => cell_regrown a0 d os
  have y1 := fun d os => cell_regrown a1 d os
  have y2 := fun d os => cell_regrown a2 d os
  have y3 := fun d os => cell_regrown a3 d os
  have y4 := fun d os => cell_regrown a4 d os
  have y5 := fun d os => cell_regrown a5 d os
  have y6 := fun d os => cell_regrown a6 d os
  clear a0 a1 a2 a3 a4 a5 a6
  have HB3 := Lib.hid hB3; have HX5 := Lib.hid B5; clear hB3 B5 B4
  go_wp2_with fail
  refine Kit.region_quiet_tail 13 (by kernel_rfl) (by kernel_rfl) ?_
  simp only [List.take_succ_cons, List.take_zero, List.drop_succ_cons, List.drop_zero]
  repeat (go_big_quiet_step ((exact Calls.regrown_of (HL.out _))))
  refine wpQuiet_nil ?_
  intro _ hw'
  obtain ⟨⟨dq, osq⟩, hw''⟩ := hw'
  subst hw''
  have hbb := below_regrown W3 dq osq
  generalize Sort.grow (redrawn W3 dq) osq = w1 at *
  clear y0 y1 y2 y3 y4 y5 y6
  have B6 := Kit.kept hbb HX5.out
  have HB4 := Lib.hid (Kit.then_ HB3.out hbb); clear hbb
  have e0 : w1.cell? ⟨w.heap.size + 1, 0, none⟩ = some (.int .i64 0) := Kit.cell B6 0 _ rfl
  have e1 : w1.cell? ⟨w.heap.size + 1, 1, none⟩ = some (.int .i64 0) := Kit.cell B6 1 _ rfl
  have e2 : w1.cell? ⟨w.heap.size + 1, 2, none⟩ = some (.int .i64 0) := Kit.cell B6 2 _ rfl
  have f0 := Kit.frz B6 0
  have f1 := Kit.frz B6 1
  have f2 := Kit.frz B6 2
  have HX6 := Lib.hid B6; clear B6
  go_wp2_with fail
  rw [em]
  exact bodyPost_ret (Kit.res_ct rfl (w.heap.size + 1) rfl (show (((w1.setCell _ _).setCell _ _).setCell _ _).heap[w.heap.size + 1]? = _ from Kit.set_ (Kit.set_ (Kit.set_ HX6.out 0 _ rfl) 1 _ rfl) 2 _ rfl) Try.underlying67 rfl (by kernel_rfl)) rfl
    ⟨rfl, (((HB4.out.setCell (by simp) _).setCell (by simp) _).setCell (by simp) _)⟩
end Go.Proofs.YthbbbmomlehimaaR.Ts
