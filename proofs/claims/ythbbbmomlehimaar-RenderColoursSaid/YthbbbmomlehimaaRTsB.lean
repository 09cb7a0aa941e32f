import Derived.Test.YthbbbmomlehimaaRTsA
set_option linter.unusedVariables false
namespace Go.Proofs.YthbbbmomlehimaaR.Ts
open Go.RowKit

section
variable (s : Scr) (w : World) (g : Nat)
theorem c103 (hg : w.heap[g]? = some (.cells s.vals 40 (0, 0))) (h1 : 0 ≤ s.top) (h2 : s.top ≤ 400) (h3 : 0 ≤ s.rows) (h4 : s.rows ≤ 400) :
    Calls Try.prog 103 #[.pointer (some ⟨g, 0, none⟩)] w fun e w' => e = .returned (.bool (decide (s.top + s.rows ≤ s.lines))) ∧ w = w' := by
  have g0 : w.cell? ⟨g, 0, none⟩ = some (.int .i64 s.lines) := cell_of_row w g 0 _ _ _ hg
  have g2 : w.cell? ⟨g, 2, none⟩ = some (.int .i64 s.top) := cell_of_row w g 2 _ _ _ hg
  have g3 : w.cell? ⟨g, 3, none⟩ = some (.int .i64 s.rows) := cell_of_row w g 3 _ _ _ hg
  clear hg
  go_enter Try.func103, Try.ntmps103
  go_wp2
  go_ret
  exact ⟨rfl, rfl⟩
theorem c104 (hg : w.heap[g]? = some (.cells s.vals 40 (0, 0))) (h1 : 0 ≤ s.left) (h2 : s.left ≤ 400) (h3 : 0 ≤ s.wide) (h4 : s.wide ≤ 400) :
    Calls Try.prog 104 #[.pointer (some ⟨g, 0, none⟩)] w fun e w' => e = .returned (.bool (decide (s.left + 4 * s.wide ≤ s.columns))) ∧ w = w' := by
  have g0 : w.cell? ⟨g, 1, none⟩ = some (.int .i64 s.columns) := cell_of_row w g 1 _ _ _ hg
  have g2 : w.cell? ⟨g, 4, none⟩ = some (.int .i64 s.left) := cell_of_row w g 4 _ _ _ hg
  have g3 : w.cell? ⟨g, 5, none⟩ = some (.int .i64 s.wide) := cell_of_row w g 5 _ _ _ hg
  clear hg
  go_enter Try.func104, Try.ntmps104
  go_wp2
  go_ret
  exact ⟨rfl, rfl⟩
theorem c105 (hg : w.heap[g]? = some (.cells s.vals 40 (0, 0))) (h1 : 0 ≤ s.lines * s.columns) (h2 : s.lines * s.columns ≤ 160000) :
    Calls Try.prog 105 #[.pointer (some ⟨g, 0, none⟩)] w fun e w' => e = .returned (.bool (decide (s.pulse ≤ s.lines * s.columns))) ∧ w = w' := by
  have g0 : w.cell? ⟨g, 0, none⟩ = some (.int .i64 s.lines) := cell_of_row w g 0 _ _ _ hg
  have g2 : w.cell? ⟨g, 1, none⟩ = some (.int .i64 s.columns) := cell_of_row w g 1 _ _ _ hg
  have g3 : w.cell? ⟨g, 6, none⟩ = some (.int .i64 s.pulse) := cell_of_row w g 6 _ _ _ hg
  clear hg
  go_enter Try.func105, Try.ntmps105
  go_wp2
  go_ret
  exact ⟨rfl, rfl⟩
end

def Scr.ok (s : Scr) : Bool := within s.lines 1 400 1 && within s.columns 8 400 4 && within s.rows 0 192 8 && within s.wide 0 32 2 && within s.left 1 400 1 && within s.pulse 1 64 1 && within s.top 0 400 1
  && decide (s.top + s.rows ≤ s.lines) && decide (s.left + 4 * s.wide ≤ s.columns) && decide (s.pulse ≤ s.lines * s.columns)
def Scr.val (s : Scr) : Value := .agg s.vals

theorem within_bounds {n a b c : Int} (h : within n a b c = true) : a ≤ n ∧ n ≤ b ∧ n.tmod c = 0 := by
  simp only [within, Bool.and_eq_true, decide_eq_true_eq, beq_iff_eq] at h
  exact ⟨h.1.1, h.1.2, h.2⟩

def Scr.code (s : Scr) : Int := if s.ok then 0 else 2

theorem h3a (w : World) (a b c : Obj) : (((w.alloc a).alloc b).alloc c).heap[w.heap.size]? = some a := by
  show (((w.heap.push a).push b).push c)[w.heap.size]? = _
  simp only [Array.getElem?_push, Array.size_push]
  rw [if_neg (by omega), if_neg (by omega)]; simp
theorem h3b (w : World) (a c : Obj) (x : Value) (ty : TypeId) : (((w.alloc a).alloc (.cells #[x] ty (0, 0))).alloc c).cell? ⟨w.heap.size + 1, 0, none⟩ = some x := by
  refine cell_of_row _ _ 0 #[x] ty (0, 0) ?_
  show (((w.heap.push a).push _).push c)[w.heap.size + 1]? = _
  simp only [Array.getElem?_push, Array.size_push]
  rw [if_neg (by omega)]; simp
theorem below3 (w : World) (a b c : Obj) : Below w.heap.size w (((w.alloc a).alloc b).alloc c) :=
  (((Below.refl _ _).alloc (Nat.le_refl _) _).alloc (by simp) _).alloc (by simp; omega) _

set_option maxHeartbeats 2000000 in
set_option maxRecDepth 100000 in
theorem check_calls (s : Scr) (w : World) :
    Calls Try.prog 37 #[s.val] w fun e w' => e = .returned (.int .i64 s.code) ∧ Below w.heap.size w w' := by
  unfold Scr.val Scr.vals
  go_enter Try.func37, Try.ntmps37
  go_wp2_with fail
  refine wp_loop_rounds 11 ?_
  rw [rounds_succ]
  go_wp2_with fail
  refine (c96 s _ _ _ (h3a _ _ _ _) (h3b _ _ _ _ _)).mono ?_; rintro e w' ⟨rfl, rfl⟩
  cases hb0 : within s.lines 1 400 1
  · go_wp2_with fail
    go_ret
    exact ⟨by simp only [Scr.code, Scr.ok, hb0]; rfl, below3 _ _ _ _⟩
  go_wp2_with fail
  rw [rounds_succ]
  go_wp2_with fail
  refine (c97 s _ _ _ (h3a _ _ _ _) (h3b _ _ _ _ _)).mono ?_; rintro e w' ⟨rfl, rfl⟩
  cases hb1 : within s.columns 8 400 4
  · go_wp2_with fail
    go_ret
    exact ⟨by simp only [Scr.code, Scr.ok, hb0, hb1]; rfl, below3 _ _ _ _⟩
  go_wp2_with fail
  rw [rounds_succ]
  go_wp2_with fail
  refine (c98 s _ _ _ (h3a _ _ _ _) (h3b _ _ _ _ _)).mono ?_; rintro e w' ⟨rfl, rfl⟩
  cases hb2 : within s.rows 0 192 8
  · go_wp2_with fail
    go_ret
    exact ⟨by simp only [Scr.code, Scr.ok, hb0, hb1, hb2]; rfl, below3 _ _ _ _⟩
  go_wp2_with fail
  rw [rounds_succ]
  go_wp2_with fail
  refine (c99 s _ _ _ (h3a _ _ _ _) (h3b _ _ _ _ _)).mono ?_; rintro e w' ⟨rfl, rfl⟩
  cases hb3 : within s.wide 0 32 2
  · go_wp2_with fail
    go_ret
    exact ⟨by simp only [Scr.code, Scr.ok, hb0, hb1, hb2, hb3]; rfl, below3 _ _ _ _⟩
  go_wp2_with fail
  rw [rounds_succ]
  go_wp2_with fail
  refine (c100 s _ _ _ (h3a _ _ _ _) (h3b _ _ _ _ _)).mono ?_; rintro e w' ⟨rfl, rfl⟩
  cases hb4 : within s.left 1 400 1
  · go_wp2_with fail
    go_ret
    exact ⟨by simp only [Scr.code, Scr.ok, hb0, hb1, hb2, hb3, hb4]; rfl, below3 _ _ _ _⟩
  go_wp2_with fail
  rw [rounds_succ]
  go_wp2_with fail
  refine (c101 s _ _ _ (h3a _ _ _ _) (h3b _ _ _ _ _)).mono ?_; rintro e w' ⟨rfl, rfl⟩
  cases hb5 : within s.pulse 1 64 1
  · go_wp2_with fail
    go_ret
    exact ⟨by simp only [Scr.code, Scr.ok, hb0, hb1, hb2, hb3, hb4, hb5]; rfl, below3 _ _ _ _⟩
  go_wp2_with fail
  rw [rounds_succ]
  go_wp2_with fail
  refine (c102 s _ _ _ (h3a _ _ _ _) (h3b _ _ _ _ _)).mono ?_; rintro e w' ⟨rfl, rfl⟩
  cases hb6 : within s.top 0 400 1
  · go_wp2_with fail
    go_ret
    exact ⟨by simp only [Scr.code, Scr.ok, hb0, hb1, hb2, hb3, hb4, hb5, hb6]; rfl, below3 _ _ _ _⟩
  go_wp2_with fail
  rw [rounds_succ]
  go_wp2_with fail
  refine (c103 s _ _ (h3a _ _ _ _) (within_bounds hb6).1 (within_bounds hb6).2.1 (within_bounds hb2).1 (by have := (within_bounds hb2).2.1; omega)).mono ?_; rintro e w' ⟨rfl, rfl⟩
  cases hb7 : decide (s.top + s.rows ≤ s.lines)
  · go_wp2_with fail
    go_ret
    exact ⟨by simp only [Scr.code, Scr.ok, hb0, hb1, hb2, hb3, hb4, hb5, hb6, hb7]; rfl, below3 _ _ _ _⟩
  go_wp2_with fail
  rw [rounds_succ]
  go_wp2_with fail
  refine (c104 s _ _ (h3a _ _ _ _) (by have := (within_bounds hb4).1; omega) (within_bounds hb4).2.1 (within_bounds hb3).1 (by have := (within_bounds hb3).2.1; omega)).mono ?_; rintro e w' ⟨rfl, rfl⟩
  cases hb8 : decide (s.left + 4 * s.wide ≤ s.columns)
  · go_wp2_with fail
    go_ret
    exact ⟨by simp only [Scr.code, Scr.ok, hb0, hb1, hb2, hb3, hb4, hb5, hb6, hb7, hb8]; rfl, below3 _ _ _ _⟩
  go_wp2_with fail
  rw [rounds_succ]
  go_wp2_with fail
  refine (c105 s _ _ (h3a _ _ _ _) (Int.mul_nonneg (by have := (within_bounds hb0).1; omega) (by have := (within_bounds hb1).1; omega)) (by have h := Int.mul_le_mul (within_bounds hb0).2.1 (within_bounds hb1).2.1 (by have := (within_bounds hb1).1; omega) (by omega : (0:Int) ≤ 400); omega)).mono ?_; rintro e w' ⟨rfl, rfl⟩
  cases hb9 : decide (s.pulse ≤ s.lines * s.columns)
  · go_wp2_with fail
    go_ret
    exact ⟨by simp only [Scr.code, Scr.ok, hb0, hb1, hb2, hb3, hb4, hb5, hb6, hb7, hb8, hb9]; rfl, below3 _ _ _ _⟩
  go_wp2_with fail
  rw [rounds_succ]
  go_wp2_with fail
  go_ret
  exact ⟨by simp only [Scr.code, Scr.ok, hb0, hb1, hb2, hb3, hb4, hb5, hb6, hb7, hb8, hb9]; rfl, below3 _ _ _ _⟩
end Go.Proofs.YthbbbmomlehimaaR.Ts
