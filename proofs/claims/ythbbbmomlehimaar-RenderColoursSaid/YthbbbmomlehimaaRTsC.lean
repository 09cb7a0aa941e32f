import Derived.Test.YthbbbmomlehimaaRTsB
import Derived.Test.YthbbbmomlehimaaRKit
set_option linter.unusedVariables false
namespace Go.Proofs.YthbbbmomlehimaaR.Ts
open Go.RowKit

def Scr.len (s : Scr) : Int := if s.ok then s.lines * s.columns else 0
theorem Scr.len_yes {s : Scr} (h : s.ok = true) : s.len = s.lines * s.columns := by simp [Scr.len, h]
theorem Scr.len_no {s : Scr} (h : s.ok = false) : s.len = 0 := by simp [Scr.len, h]
structure Scr.Fits (s : Scr) : Prop where
  l1 : 1 ≤ s.lines
  l2 : s.lines ≤ 400
  c1 : 8 ≤ s.columns
  c2 : s.columns ≤ 400
  c3 : s.columns % 4 = 0
  r1 : 0 ≤ s.rows
  r2 : s.rows ≤ 192
  r3 : s.rows % 8 = 0
  w1 : 0 ≤ s.wide
  w2 : s.wide ≤ 32
  w3 : s.wide % 2 = 0
  f1 : 1 ≤ s.left
  f2 : s.left ≤ 400
  p1 : 1 ≤ s.pulse
  p2 : s.pulse ≤ 64
  t1 : 0 ≤ s.top
  t2 : s.top ≤ 400
  tr : s.top + s.rows ≤ s.lines
  lw : s.left + 4 * s.wide ≤ s.columns
  pl : s.pulse ≤ s.lines * s.columns
  n1 : 8 ≤ s.lines * s.columns
  n2 : s.lines * s.columns ≤ 160000
theorem Scr.fits {s : Scr} (h : s.ok = true) : s.Fits := by
  simp only [Scr.ok, Bool.and_eq_true, decide_eq_true_eq] at h
  obtain ⟨⟨⟨⟨⟨⟨⟨⟨⟨a0, a1⟩, a2⟩, a3⟩, a4⟩, a5⟩, a6⟩, a7⟩, a8⟩, a9⟩ := h
  obtain ⟨b0, d0, e0⟩ := within_bounds a0
  obtain ⟨b1, d1, e1⟩ := within_bounds a1
  obtain ⟨b2, d2, e2⟩ := within_bounds a2
  obtain ⟨b3, d3, e3⟩ := within_bounds a3
  obtain ⟨b4, d4, e4⟩ := within_bounds a4
  obtain ⟨b5, d5, e5⟩ := within_bounds a5
  obtain ⟨b6, d6, e6⟩ := within_bounds a6
  have n1 : 8 ≤ s.lines * s.columns := by
    have h := Int.mul_le_mul b0 b1 (by omega) (by omega); omega
  have n2 : s.lines * s.columns ≤ 160000 := by
    have h := Int.mul_le_mul d0 d1 (by omega) (by omega : (0:Int) ≤ 400); omega
  rw [Int.tmod_eq_emod_of_nonneg (by omega)] at e1 e2 e3
  exact ⟨b0, d0, b1, d1, e1, b2, d2, e2, b3, d3, e3, b4, d4, b5, d5, b6, d6, a7, a8, a9, n1, n2⟩

theorem Scr.code_yes {s : Scr} (h : s.ok = true) : s.code = 0 := by simp [Scr.code, h]
theorem Scr.code_no {s : Scr} (h : s.ok = false) : s.code = 2 := by simp [Scr.code, h]

set_option maxHeartbeats 400000 in
theorem length_calls (s : Scr) (w : World) :
    Calls Try.prog 51 #[s.val] w fun e w' => e = .returned (.int .i64 s.len) ∧ Below w.heap.size w w' := by
  cases h : s.ok
  · rw [Scr.len_no h]
    have hc := (check_calls s (w.alloc (.cells s.vals 40 (0, 0))))
    rw [Scr.code_no h] at hc
    clear h
    unfold Scr.val Scr.vals at *
    go_enter Try.func51, Try.ntmps51
    go_wp2_with fail
    refine hc.mono ?_; rintro e w' ⟨rfl, hb⟩
    clear hc
    go_wp2_with fail
    go_ret
    exact ⟨rfl, ((Below.refl _ _).alloc (Nat.le_refl _) _).trans (hb.mono (by simp))⟩
  · rw [Scr.len_yes h]
    have hf := s.fits h
    have hc := (check_calls s (w.alloc (.cells s.vals 40 (0, 0))))
    rw [Scr.code_yes h] at hc
    clear h
    obtain ⟨_, _, _, _, _, _, _, _, _, _, _, _, _, _, _, _, _, _, _, _, n1, n2⟩ := hf
    unfold Scr.val Scr.vals at *
    go_enter Try.func51, Try.ntmps51
    go_wp2_with fail
    refine hc.mono ?_; rintro e w' ⟨rfl, hb⟩
    clear hc
    have g0 : w'.cell? ⟨w.heap.size, 0, none⟩ = some (.int .i64 s.lines) := (hb.cell (p := ⟨w.heap.size, 0, none⟩) (by simp)).trans (by go_cell)
    have g1 : w'.cell? ⟨w.heap.size, 1, none⟩ = some (.int .i64 s.columns) := (hb.cell (p := ⟨w.heap.size, 1, none⟩) (by simp)).trans (by go_cell)
    go_wp2_with fail
    go_ret
    exact ⟨rfl, ((Below.refl _ _).alloc (Nat.le_refl _) _).trans (hb.mono (by simp))⟩

theorem may_yes (t : Int) (h1 : 0 ≤ t) (h2 : t ≤ 1099511627776) (w : World) : Calls Try.prog 110 #[.int .i64 t] w fun e w' => e = .returned (.bool true) ∧ w = w' := by
  go_enter Try.func110, Try.ntmps110
  go_wp2
  go_ret
  exact ⟨rfl, rfl⟩
theorem may_no (t : Int) (h : t < 0 ∨ 1099511627776 < t) (w : World) : Calls Try.prog 110 #[.int .i64 t] w fun e w' => e = .returned (.bool false) ∧ w = w' := by
  rcases h with h | h
  · have h' : ¬ 0 ≤ t := by omega
    go_enter Try.func110, Try.ntmps110
    go_wp2
    go_ret
    exact ⟨rfl, rfl⟩
  · have h' : 0 ≤ t := by omega
    go_enter Try.func110, Try.ntmps110
    go_wp2
    go_ret
    exact ⟨by simp; omega, rfl⟩

structure Spt where
  (frame line col : Int)
def Spt.val (p : Spt) : Value := .agg #[.int .i64 p.frame, .int .i64 p.line, .int .i64 p.col]
def Scr.spot (s : Scr) (t : Int) : Spt := ⟨t / (s.lines * s.columns), t % (s.lines * s.columns) / s.columns, t % s.columns⟩

theorem spot_yes (s : Scr) (t : Int) (h : s.ok = true) (h1 : 0 ≤ t) (h2 : t ≤ 1099511627776) (w : World) :
    Calls Try.prog 41 #[s.val, .int .i64 t] w fun e w' => e = .returned (.tuple #[(s.spot t).val, .int .i64 0]) ∧ Below w.heap.size w w' := by
  have hf := s.fits h
  have hl := length_calls s
  rw [Scr.len_yes h] at hl
  clear h
  obtain ⟨_, _, c1, c2, _, _, _, _, _, _, _, _, _, _, _, _, _, _, _, _, n1, n2⟩ := hf
  unfold Scr.val Scr.vals Spt.val Scr.spot at *
  have HL := Lib.hid hl; clear hl
  go_enter Try.func41, Try.ntmps41
  go_wp2_with fail
  refine (HL.out _).mono ?_; rintro e w' ⟨rfl, hb⟩
  have B0 := Kit.kept hb (Kit.blk2a _ _ _)
  have B1 := Kit.kept hb (Kit.blk2b _ _ _)
  have hB := Kit.then_ (Kit.below2 _ _ _) hb
  have hz := hb.size; simp at hz
  clear hb
  have g0 : w'.cell? ⟨w.heap.size, 1, none⟩ = some (.int .i64 s.columns) := Kit.cell B0 1 _ rfl
  have k0 : w'.cell? ⟨w.heap.size + 1, 0, none⟩ = some (.int .i64 0) := Kit.cell B1 0 _ rfl
  have k1 : w'.cell? ⟨w.heap.size + 1, 1, none⟩ = some (.int .i64 0) := Kit.cell B1 1 _ rfl
  have k2 : w'.cell? ⟨w.heap.size + 1, 2, none⟩ = some (.int .i64 0) := Kit.cell B1 2 _ rfl
  have f0 := Kit.frz B1 0
  have f1 := Kit.frz B1 1
  have f2 := Kit.frz B1 2
  clear B0
  have HB1 := Lib.hid B1; clear B1
  have hne : (s.lines * s.columns == 0) = false := beq_eq_false_iff_ne.2 (by omega)
  have hm : 0 ≤ t % (s.lines * s.columns) := Int.emod_nonneg _ (by omega)
  have hm2 : t % (s.lines * s.columns) < s.lines * s.columns := Int.emod_lt_of_pos _ (by omega)
  go_wp2_with (go_at_call 110; refine (may_yes _ h1 h2 _).mono ?_; rintro e w' ⟨rfl, rfl⟩)
  go_region
  go_wp2_with fail
  exact bodyPost_ret (Kit.res_ct rfl (w.heap.size + 1) rfl (show (((w'.setCell _ _).setCell _ _).setCell _ _).heap[w.heap.size + 1]? = _ from Kit.set_ (Kit.set_ (Kit.set_ HB1.out 0 _ rfl) 1 _ rfl) 2 _ rfl) Try.underlying67 rfl (by kernel_rfl)) rfl
    ⟨rfl, ((((hB.setCell (by simp) _).setCell (by simp) _).setCell (by simp) _).drew)⟩
end Go.Proofs.YthbbbmomlehimaaR.Ts
