import Derived.Test.YthbbbmomlehimaaRTsD
set_option linter.unusedVariables false
namespace Go.Proofs.YthbbbmomlehimaaR.Ts
open Go.RowKit

/-- Is a spot the picture's? -/
def Scr.hot (s : Scr) (t : Int) : Bool := decide (s.top ≤ (s.spot t).line) && decide ((s.spot t).line < s.top + s.rows) && decide (s.left - 1 ≤ (s.spot t).col) && decide ((s.spot t).col - (s.left - 1) < 4 * s.wide)
def Scr.wait (s : Scr) (t : Int) : Int := if s.hot t then max 0 (6 - ((s.spot t).col - (s.left - 1)) % 8) else 0

theorem Scr.spot_bounds {s : Scr} (h : s.ok = true) {t : Int} (h1 : 0 ≤ t) (h2 : t ≤ 1099511627776) :
    0 ≤ (s.spot t).line ∧ (s.spot t).line < s.lines ∧ 0 ≤ (s.spot t).col ∧ (s.spot t).col < s.columns := by
  have f := s.fits h
  have l1 := f.l1; have c1 := f.c1; have n1 := f.n1
  refine ⟨?_, ?_, ?_, ?_⟩
  · exact Int.ediv_nonneg (Int.emod_nonneg _ (by omega)) (by omega)
  · exact Int.ediv_lt_of_lt_mul (by omega) (Int.emod_lt_of_pos _ (by omega))
  · exact Int.emod_nonneg _ (by omega)
  · exact Int.emod_lt_of_pos _ (by omega)

theorem and7 (c : Int) (h : 0 ≤ c) (h2 : c < 512) : bits .and .i64 c 7 = c % 8 :=
  bits_mask .i64 9 (by decide) (fun n h0 h1 => by rw [IntKind.wrap_i64]; omega) 3 (by decide) c h (by omega)

set_option maxRecDepth 100000 in
theorem wait_hot (s : Scr) (t : Int) (h : s.ok = true) (h1 : 0 ≤ t) (h2 : t ≤ 1099511627776) (hh : s.hot t = true) (w : World) :
    Calls Try.prog 86 #[s.val, .int .i64 t] w fun e w' => e = .returned (.int .i64 (s.wait t)) ∧ Below w.heap.size w w' := by
  have hw : s.wait t = max 0 (6 - ((s.spot t).col - (s.left - 1)) % 8) := by simp [Scr.wait, hh]
  rw [hw]; clear hw
  simp only [Scr.hot, Bool.and_eq_true, decide_eq_true_eq] at hh
  obtain ⟨⟨⟨p1, p2⟩, p3⟩, p4⟩ := hh
  obtain ⟨b1, b2, b3, b4⟩ := s.spot_bounds h h1 h2
  have hs := spot_yes s t h h1 h2
  obtain ⟨l1, l2, c1, c2, _, r1, r2, _, w1, w2, _, f1, f2, _, _, t1, t2, tr, lw, _, _, _⟩ := s.fits h
  clear h
  generalize s.spot t = q at *
  have HS := Lib.hid hs; clear hs
  unfold Scr.val Scr.vals Spt.val at *
  go_enter Try.func86, Try.ntmps86
  go_wp2_with fail
  refine (HS.out _).mono ?_; rintro e w' ⟨rfl, hb⟩
  have B0 := Kit.kept hb (Kit.blk1 _ _)
  have hB := Kit.then_ (Kit.below1 _ _) hb
  have hz := Kit.lt B0
  clear hb HS
  have g0 : w'.cell? ⟨w.heap.size, 2, none⟩ = some (.int .i64 s.top) := Kit.cell B0 2 _ rfl
  have g1 : w'.cell? ⟨w.heap.size, 3, none⟩ = some (.int .i64 s.rows) := Kit.cell B0 3 _ rfl
  have g2 : w'.cell? ⟨w.heap.size, 4, none⟩ = some (.int .i64 s.left) := Kit.cell B0 4 _ rfl
  have g3 : w'.cell? ⟨w.heap.size, 5, none⟩ = some (.int .i64 s.wide) := Kit.cell B0 5 _ rfl
  clear B0
  have d1 : decide (q.line < s.top) = false := decide_eq_false (by omega)
  have d2 : decide (s.top + s.rows ≤ q.line) = false := decide_eq_false (by omega)
  have d3 : decide (q.col - (s.left - 1) < 0) = false := decide_eq_false (by omega)
  have d4 : decide (4 * s.wide ≤ q.col - (s.left - 1)) = false := decide_eq_false (by omega)
  have m1 : bits .and .i64 (q.col - (s.left - 1)) 7 = (q.col - (s.left - 1)) % 8 := and7 _ (by omega) (by omega)
  have m2 : 0 ≤ (q.col - (s.left - 1)) % 8 := by omega
  have m3 : (q.col - (s.left - 1)) % 8 < 8 := by omega
  go_wp2_with fail
  all_goals go_ret
  all_goals exact ⟨by first | rfl | (rw [Int.max_eq_right (by omega)]; rfl) | (rw [Int.max_eq_left (by omega)]; rfl), by go_grown⟩

set_option maxRecDepth 100000 in
theorem wait_cold (s : Scr) (t : Int) (h : s.ok = true) (h1 : 0 ≤ t) (h2 : t ≤ 1099511627776) (hh : s.hot t = false) (w : World) :
    Calls Try.prog 86 #[s.val, .int .i64 t] w fun e w' => e = .returned (.int .i64 (s.wait t)) ∧ Below w.heap.size w w' := by
  have hw : s.wait t = 0 := by simp [Scr.wait, hh]
  rw [hw]; clear hw
  have hk : ¬ (s.top ≤ (s.spot t).line ∧ (s.spot t).line < s.top + s.rows ∧ s.left - 1 ≤ (s.spot t).col ∧ (s.spot t).col - (s.left - 1) < 4 * s.wide) := by
    intro ⟨a, b, c, d⟩
    simp [Scr.hot, a, b, c, d] at hh
  obtain ⟨b1, b2, b3, b4⟩ := s.spot_bounds h h1 h2
  have hs := spot_yes s t h h1 h2
  obtain ⟨l1, l2, c1, c2, _, r1, r2, _, w1, w2, _, f1, f2, _, _, t1, t2, tr, lw, _, _, _⟩ := s.fits h
  clear h hh
  generalize s.spot t = q at *
  have HS := Lib.hid hs; clear hs
  have HK := Lib.hid hk; clear hk
  unfold Scr.val Scr.vals Spt.val at *
  go_enter Try.func86, Try.ntmps86
  go_wp2_with fail
  refine (HS.out _).mono ?_; rintro e w' ⟨rfl, hb⟩
  have B0 := Kit.kept hb (Kit.blk1 _ _)
  have hB := Kit.then_ (Kit.below1 _ _) hb
  have hz := Kit.lt B0
  clear hb HS
  have g0 : w'.cell? ⟨w.heap.size, 2, none⟩ = some (.int .i64 s.top) := Kit.cell B0 2 _ rfl
  have g1 : w'.cell? ⟨w.heap.size, 3, none⟩ = some (.int .i64 s.rows) := Kit.cell B0 3 _ rfl
  have g2 : w'.cell? ⟨w.heap.size, 4, none⟩ = some (.int .i64 s.left) := Kit.cell B0 4 _ rfl
  have g3 : w'.cell? ⟨w.heap.size, 5, none⟩ = some (.int .i64 s.wide) := Kit.cell B0 5 _ rfl
  clear B0
  by_cases e1 : q.line < s.top
  · have d1 : decide (q.line < s.top) = true := decide_eq_true e1
    go_wp2_with fail
    go_ret
    exact ⟨rfl, by go_grown⟩
  have d1 : decide (q.line < s.top) = false := decide_eq_false e1
  by_cases e2 : s.top + s.rows ≤ q.line
  · have d2 : decide (s.top + s.rows ≤ q.line) = true := decide_eq_true e2
    go_wp2_with fail
    go_ret
    exact ⟨rfl, by go_grown⟩
  have d2 : decide (s.top + s.rows ≤ q.line) = false := decide_eq_false e2
  by_cases e3 : q.col - (s.left - 1) < 0
  · have d3 : decide (q.col - (s.left - 1) < 0) = true := decide_eq_true e3
    go_wp2_with fail
    go_ret
    exact ⟨rfl, by go_grown⟩
  have d3 : decide (q.col - (s.left - 1) < 0) = false := decide_eq_false e3
  have e4 : 4 * s.wide ≤ q.col - (s.left - 1) := by
    by_cases e : 4 * s.wide ≤ q.col - (s.left - 1)
    · exact e
    · exact absurd ⟨by omega, by omega, by omega, by omega⟩ HK.out
  clear HK
  have d4 : decide (4 * s.wide ≤ q.col - (s.left - 1)) = true := decide_eq_true e4
  go_wp2_with fail
  go_ret
  exact ⟨rfl, by go_grown⟩

theorem wait_calls (s : Scr) (t : Int) (h : s.ok = true) (h1 : 0 ≤ t) (h2 : t ≤ 1099511627776) (w : World) :
    Calls Try.prog 86 #[s.val, .int .i64 t] w fun e w' => e = .returned (.int .i64 (s.wait t)) ∧ Below w.heap.size w w' := by
  cases hh : s.hot t
  · exact wait_cold s t h h1 h2 hh w
  · exact wait_hot s t h h1 h2 hh w
end Go.Proofs.YthbbbmomlehimaaR.Ts
