import Derived.Test.YthbbbmomlehimaaRTsD
set_option linter.unusedVariables false
namespace Go.Proofs.YthbbbmomlehimaaR.Ts
open Go.RowKit

def Scr.at_ (s : Scr) (p : Spt) : Int := p.frame * (s.lines * s.columns) + p.line * s.columns + p.col

theorem time_no_ok (s : Scr) (p : Spt) (h : s.ok = false) (w : World) :
    Calls Try.prog 40 #[s.val, p.val] w fun e w' => e = .returned (.tuple #[.int .i64 0, .int .i64 2]) ∧ Below w.heap.size w w' := by
  have hl := length_calls s
  rw [Scr.len_no h] at hl
  clear h
  unfold Scr.val Scr.vals Spt.val at *
  have HL := Lib.hid hl; clear hl
  go_enter Try.func40, Try.ntmps40
  go_wp2_with fail
  refine (HL.out _).mono ?_; rintro e w' ⟨rfl, hb⟩
  have B0 := Kit.kept hb (Kit.blk2a _ _ _)
  have B1 := Kit.kept hb (Kit.blk2b _ _ _)
  have hB := Kit.then_ (Kit.below2 _ _ _) hb
  have hz := hb.size; simp at hz
  clear hb HL
  have g0 : w'.cell? ⟨w.heap.size, 0, none⟩ = some (.int .i64 s.lines) := Kit.cell B0 0 _ rfl
  have g1 : w'.cell? ⟨w.heap.size, 1, none⟩ = some (.int .i64 s.columns) := Kit.cell B0 1 _ rfl
  have k0 : w'.cell? ⟨w.heap.size + 1, 0, none⟩ = some (.int .i64 p.frame) := Kit.cell B1 0 _ rfl
  have k1 : w'.cell? ⟨w.heap.size + 1, 1, none⟩ = some (.int .i64 p.line) := Kit.cell B1 1 _ rfl
  have k2 : w'.cell? ⟨w.heap.size + 1, 2, none⟩ = some (.int .i64 p.col) := Kit.cell B1 2 _ rfl
  clear B0 B1
  go_wp2_with fail
  go_region
  go_wp2_with fail
  go_ret2
  exact ⟨rfl, by go_grown⟩

theorem time_no0 (s : Scr) (p : Spt) (h : s.ok = true)  (hk : p.frame < 0) (w : World) :
    Calls Try.prog 40 #[s.val, p.val] w fun e w' => e = .returned (.tuple #[.int .i64 0, .int .i64 2]) ∧ Below w.heap.size w w' := by
  have hf := s.fits h
  have hl := length_calls s
  rw [Scr.len_yes h] at hl
  clear h
  obtain ⟨l1, l2, c1, c2, _, _, _, _, _, _, _, _, _, _, _, _, _, _, _, _, n1, n2⟩ := hf
  unfold Scr.val Scr.vals Spt.val at *
  have HL := Lib.hid hl; clear hl
  go_enter Try.func40, Try.ntmps40
  go_wp2_with fail
  refine (HL.out _).mono ?_; rintro e w' ⟨rfl, hb⟩
  have B0 := Kit.kept hb (Kit.blk2a _ _ _)
  have B1 := Kit.kept hb (Kit.blk2b _ _ _)
  have hB := Kit.then_ (Kit.below2 _ _ _) hb
  have hz := hb.size; simp at hz
  clear hb HL
  have g0 : w'.cell? ⟨w.heap.size, 0, none⟩ = some (.int .i64 s.lines) := Kit.cell B0 0 _ rfl
  have g1 : w'.cell? ⟨w.heap.size, 1, none⟩ = some (.int .i64 s.columns) := Kit.cell B0 1 _ rfl
  have k0 : w'.cell? ⟨w.heap.size + 1, 0, none⟩ = some (.int .i64 p.frame) := Kit.cell B1 0 _ rfl
  have k1 : w'.cell? ⟨w.heap.size + 1, 1, none⟩ = some (.int .i64 p.line) := Kit.cell B1 1 _ rfl
  have k2 : w'.cell? ⟨w.heap.size + 1, 2, none⟩ = some (.int .i64 p.col) := Kit.cell B1 2 _ rfl
  clear B0 B1
  have hne : (s.lines * s.columns == 0) = false := beq_eq_false_iff_ne.2 (by omega)
  have dk : decide (p.frame < 0) = true := decide_eq_true hk
  go_wp2_with fail
  go_region
  go_wp2_with fail
  go_ret2
  exact ⟨rfl, by go_grown⟩

theorem time_no1 (s : Scr) (p : Spt) (h : s.ok = true) (h1 : 0 ≤ p.frame) (hk : 1099511627776 < p.frame) (w : World) :
    Calls Try.prog 40 #[s.val, p.val] w fun e w' => e = .returned (.tuple #[.int .i64 0, .int .i64 2]) ∧ Below w.heap.size w w' := by
  have hf := s.fits h
  have hl := length_calls s
  rw [Scr.len_yes h] at hl
  clear h
  obtain ⟨l1, l2, c1, c2, _, _, _, _, _, _, _, _, _, _, _, _, _, _, _, _, n1, n2⟩ := hf
  unfold Scr.val Scr.vals Spt.val at *
  have HL := Lib.hid hl; clear hl
  go_enter Try.func40, Try.ntmps40
  go_wp2_with fail
  refine (HL.out _).mono ?_; rintro e w' ⟨rfl, hb⟩
  have B0 := Kit.kept hb (Kit.blk2a _ _ _)
  have B1 := Kit.kept hb (Kit.blk2b _ _ _)
  have hB := Kit.then_ (Kit.below2 _ _ _) hb
  have hz := hb.size; simp at hz
  clear hb HL
  have g0 : w'.cell? ⟨w.heap.size, 0, none⟩ = some (.int .i64 s.lines) := Kit.cell B0 0 _ rfl
  have g1 : w'.cell? ⟨w.heap.size, 1, none⟩ = some (.int .i64 s.columns) := Kit.cell B0 1 _ rfl
  have k0 : w'.cell? ⟨w.heap.size + 1, 0, none⟩ = some (.int .i64 p.frame) := Kit.cell B1 0 _ rfl
  have k1 : w'.cell? ⟨w.heap.size + 1, 1, none⟩ = some (.int .i64 p.line) := Kit.cell B1 1 _ rfl
  have k2 : w'.cell? ⟨w.heap.size + 1, 2, none⟩ = some (.int .i64 p.col) := Kit.cell B1 2 _ rfl
  clear B0 B1
  have hne : (s.lines * s.columns == 0) = false := beq_eq_false_iff_ne.2 (by omega)
  have d1 : decide (p.frame < 0) = false := decide_eq_false (by omega)
  have dk : decide (1099511627776 < p.frame) = true := decide_eq_true hk
  go_wp2_with fail
  go_region
  go_wp2_with fail
  go_ret2
  exact ⟨rfl, by go_grown⟩

theorem time_no2 (s : Scr) (p : Spt) (h : s.ok = true) (h1 : 0 ≤ p.frame) (h2 : p.frame ≤ 1099511627776) (hk : p.line < 0) (w : World) :
    Calls Try.prog 40 #[s.val, p.val] w fun e w' => e = .returned (.tuple #[.int .i64 0, .int .i64 2]) ∧ Below w.heap.size w w' := by
  have hf := s.fits h
  have hl := length_calls s
  rw [Scr.len_yes h] at hl
  clear h
  obtain ⟨l1, l2, c1, c2, _, _, _, _, _, _, _, _, _, _, _, _, _, _, _, _, n1, n2⟩ := hf
  unfold Scr.val Scr.vals Spt.val at *
  have HL := Lib.hid hl; clear hl
  go_enter Try.func40, Try.ntmps40
  go_wp2_with fail
  refine (HL.out _).mono ?_; rintro e w' ⟨rfl, hb⟩
  have B0 := Kit.kept hb (Kit.blk2a _ _ _)
  have B1 := Kit.kept hb (Kit.blk2b _ _ _)
  have hB := Kit.then_ (Kit.below2 _ _ _) hb
  have hz := hb.size; simp at hz
  clear hb HL
  have g0 : w'.cell? ⟨w.heap.size, 0, none⟩ = some (.int .i64 s.lines) := Kit.cell B0 0 _ rfl
  have g1 : w'.cell? ⟨w.heap.size, 1, none⟩ = some (.int .i64 s.columns) := Kit.cell B0 1 _ rfl
  have k0 : w'.cell? ⟨w.heap.size + 1, 0, none⟩ = some (.int .i64 p.frame) := Kit.cell B1 0 _ rfl
  have k1 : w'.cell? ⟨w.heap.size + 1, 1, none⟩ = some (.int .i64 p.line) := Kit.cell B1 1 _ rfl
  have k2 : w'.cell? ⟨w.heap.size + 1, 2, none⟩ = some (.int .i64 p.col) := Kit.cell B1 2 _ rfl
  clear B0 B1
  have hne : (s.lines * s.columns == 0) = false := beq_eq_false_iff_ne.2 (by omega)
  have d1 : decide (p.frame < 0) = false := decide_eq_false (by omega)
  have d2 : decide (1099511627776 < p.frame) = false := decide_eq_false (by omega)
  have dk : decide (p.line < 0) = true := decide_eq_true hk
  go_wp2_with fail
  go_region
  go_wp2_with fail
  go_ret2
  exact ⟨rfl, by go_grown⟩

theorem time_no3 (s : Scr) (p : Spt) (h : s.ok = true) (h1 : 0 ≤ p.frame) (h2 : p.frame ≤ 1099511627776) (h3 : 0 ≤ p.line) (hk : s.lines ≤ p.line) (w : World) :
    Calls Try.prog 40 #[s.val, p.val] w fun e w' => e = .returned (.tuple #[.int .i64 0, .int .i64 2]) ∧ Below w.heap.size w w' := by
  have hf := s.fits h
  have hl := length_calls s
  rw [Scr.len_yes h] at hl
  clear h
  obtain ⟨l1, l2, c1, c2, _, _, _, _, _, _, _, _, _, _, _, _, _, _, _, _, n1, n2⟩ := hf
  unfold Scr.val Scr.vals Spt.val at *
  have HL := Lib.hid hl; clear hl
  go_enter Try.func40, Try.ntmps40
  go_wp2_with fail
  refine (HL.out _).mono ?_; rintro e w' ⟨rfl, hb⟩
  have B0 := Kit.kept hb (Kit.blk2a _ _ _)
  have B1 := Kit.kept hb (Kit.blk2b _ _ _)
  have hB := Kit.then_ (Kit.below2 _ _ _) hb
  have hz := hb.size; simp at hz
  clear hb HL
  have g0 : w'.cell? ⟨w.heap.size, 0, none⟩ = some (.int .i64 s.lines) := Kit.cell B0 0 _ rfl
  have g1 : w'.cell? ⟨w.heap.size, 1, none⟩ = some (.int .i64 s.columns) := Kit.cell B0 1 _ rfl
  have k0 : w'.cell? ⟨w.heap.size + 1, 0, none⟩ = some (.int .i64 p.frame) := Kit.cell B1 0 _ rfl
  have k1 : w'.cell? ⟨w.heap.size + 1, 1, none⟩ = some (.int .i64 p.line) := Kit.cell B1 1 _ rfl
  have k2 : w'.cell? ⟨w.heap.size + 1, 2, none⟩ = some (.int .i64 p.col) := Kit.cell B1 2 _ rfl
  clear B0 B1
  have hne : (s.lines * s.columns == 0) = false := beq_eq_false_iff_ne.2 (by omega)
  have d1 : decide (p.frame < 0) = false := decide_eq_false (by omega)
  have d2 : decide (1099511627776 < p.frame) = false := decide_eq_false (by omega)
  have d3 : decide (p.line < 0) = false := decide_eq_false (by omega)
  have dk : decide (s.lines ≤ p.line) = true := decide_eq_true hk
  go_wp2_with fail
  go_region
  go_wp2_with fail
  go_ret2
  exact ⟨rfl, by go_grown⟩

theorem time_no4 (s : Scr) (p : Spt) (h : s.ok = true) (h1 : 0 ≤ p.frame) (h2 : p.frame ≤ 1099511627776) (h3 : 0 ≤ p.line) (h4 : p.line < s.lines) (hk : p.col < 0) (w : World) :
    Calls Try.prog 40 #[s.val, p.val] w fun e w' => e = .returned (.tuple #[.int .i64 0, .int .i64 2]) ∧ Below w.heap.size w w' := by
  have hf := s.fits h
  have hl := length_calls s
  rw [Scr.len_yes h] at hl
  clear h
  obtain ⟨l1, l2, c1, c2, _, _, _, _, _, _, _, _, _, _, _, _, _, _, _, _, n1, n2⟩ := hf
  unfold Scr.val Scr.vals Spt.val at *
  have HL := Lib.hid hl; clear hl
  go_enter Try.func40, Try.ntmps40
  go_wp2_with fail
  refine (HL.out _).mono ?_; rintro e w' ⟨rfl, hb⟩
  have B0 := Kit.kept hb (Kit.blk2a _ _ _)
  have B1 := Kit.kept hb (Kit.blk2b _ _ _)
  have hB := Kit.then_ (Kit.below2 _ _ _) hb
  have hz := hb.size; simp at hz
  clear hb HL
  have g0 : w'.cell? ⟨w.heap.size, 0, none⟩ = some (.int .i64 s.lines) := Kit.cell B0 0 _ rfl
  have g1 : w'.cell? ⟨w.heap.size, 1, none⟩ = some (.int .i64 s.columns) := Kit.cell B0 1 _ rfl
  have k0 : w'.cell? ⟨w.heap.size + 1, 0, none⟩ = some (.int .i64 p.frame) := Kit.cell B1 0 _ rfl
  have k1 : w'.cell? ⟨w.heap.size + 1, 1, none⟩ = some (.int .i64 p.line) := Kit.cell B1 1 _ rfl
  have k2 : w'.cell? ⟨w.heap.size + 1, 2, none⟩ = some (.int .i64 p.col) := Kit.cell B1 2 _ rfl
  clear B0 B1
  have hne : (s.lines * s.columns == 0) = false := beq_eq_false_iff_ne.2 (by omega)
  have d1 : decide (p.frame < 0) = false := decide_eq_false (by omega)
  have d2 : decide (1099511627776 < p.frame) = false := decide_eq_false (by omega)
  have d3 : decide (p.line < 0) = false := decide_eq_false (by omega)
  have d4 : decide (s.lines ≤ p.line) = false := decide_eq_false (by omega)
  have dk : decide (p.col < 0) = true := decide_eq_true hk
  go_wp2_with fail
  go_region
  go_wp2_with fail
  go_ret2
  exact ⟨rfl, by go_grown⟩

theorem time_no5 (s : Scr) (p : Spt) (h : s.ok = true) (h1 : 0 ≤ p.frame) (h2 : p.frame ≤ 1099511627776) (h3 : 0 ≤ p.line) (h4 : p.line < s.lines) (h5 : 0 ≤ p.col) (hk : s.columns ≤ p.col) (w : World) :
    Calls Try.prog 40 #[s.val, p.val] w fun e w' => e = .returned (.tuple #[.int .i64 0, .int .i64 2]) ∧ Below w.heap.size w w' := by
  have hf := s.fits h
  have hl := length_calls s
  rw [Scr.len_yes h] at hl
  clear h
  obtain ⟨l1, l2, c1, c2, _, _, _, _, _, _, _, _, _, _, _, _, _, _, _, _, n1, n2⟩ := hf
  unfold Scr.val Scr.vals Spt.val at *
  have HL := Lib.hid hl; clear hl
  go_enter Try.func40, Try.ntmps40
  go_wp2_with fail
  refine (HL.out _).mono ?_; rintro e w' ⟨rfl, hb⟩
  have B0 := Kit.kept hb (Kit.blk2a _ _ _)
  have B1 := Kit.kept hb (Kit.blk2b _ _ _)
  have hB := Kit.then_ (Kit.below2 _ _ _) hb
  have hz := hb.size; simp at hz
  clear hb HL
  have g0 : w'.cell? ⟨w.heap.size, 0, none⟩ = some (.int .i64 s.lines) := Kit.cell B0 0 _ rfl
  have g1 : w'.cell? ⟨w.heap.size, 1, none⟩ = some (.int .i64 s.columns) := Kit.cell B0 1 _ rfl
  have k0 : w'.cell? ⟨w.heap.size + 1, 0, none⟩ = some (.int .i64 p.frame) := Kit.cell B1 0 _ rfl
  have k1 : w'.cell? ⟨w.heap.size + 1, 1, none⟩ = some (.int .i64 p.line) := Kit.cell B1 1 _ rfl
  have k2 : w'.cell? ⟨w.heap.size + 1, 2, none⟩ = some (.int .i64 p.col) := Kit.cell B1 2 _ rfl
  clear B0 B1
  have hne : (s.lines * s.columns == 0) = false := beq_eq_false_iff_ne.2 (by omega)
  have d1 : decide (p.frame < 0) = false := decide_eq_false (by omega)
  have d2 : decide (1099511627776 < p.frame) = false := decide_eq_false (by omega)
  have d3 : decide (p.line < 0) = false := decide_eq_false (by omega)
  have d4 : decide (s.lines ≤ p.line) = false := decide_eq_false (by omega)
  have d5 : decide (p.col < 0) = false := decide_eq_false (by omega)
  have dk : decide (s.columns ≤ p.col) = true := decide_eq_true hk
  go_wp2_with fail
  go_region
  go_wp2_with fail
  go_ret2
  exact ⟨rfl, by go_grown⟩

theorem time_no6 (s : Scr) (p : Spt) (h : s.ok = true) (h1 : 0 ≤ p.frame) (h2 : p.frame ≤ 1099511627776) (h3 : 0 ≤ p.line) (h4 : p.line < s.lines) (h5 : 0 ≤ p.col) (h6 : p.col < s.columns) (hk : 1099511627776 / (s.lines * s.columns) < p.frame) (w : World) :
    Calls Try.prog 40 #[s.val, p.val] w fun e w' => e = .returned (.tuple #[.int .i64 0, .int .i64 2]) ∧ Below w.heap.size w w' := by
  have hf := s.fits h
  have hl := length_calls s
  rw [Scr.len_yes h] at hl
  clear h
  obtain ⟨l1, l2, c1, c2, _, _, _, _, _, _, _, _, _, _, _, _, _, _, _, _, n1, n2⟩ := hf
  unfold Scr.val Scr.vals Spt.val at *
  have HL := Lib.hid hl; clear hl
  go_enter Try.func40, Try.ntmps40
  go_wp2_with fail
  refine (HL.out _).mono ?_; rintro e w' ⟨rfl, hb⟩
  have B0 := Kit.kept hb (Kit.blk2a _ _ _)
  have B1 := Kit.kept hb (Kit.blk2b _ _ _)
  have hB := Kit.then_ (Kit.below2 _ _ _) hb
  have hz := hb.size; simp at hz
  clear hb HL
  have g0 : w'.cell? ⟨w.heap.size, 0, none⟩ = some (.int .i64 s.lines) := Kit.cell B0 0 _ rfl
  have g1 : w'.cell? ⟨w.heap.size, 1, none⟩ = some (.int .i64 s.columns) := Kit.cell B0 1 _ rfl
  have k0 : w'.cell? ⟨w.heap.size + 1, 0, none⟩ = some (.int .i64 p.frame) := Kit.cell B1 0 _ rfl
  have k1 : w'.cell? ⟨w.heap.size + 1, 1, none⟩ = some (.int .i64 p.line) := Kit.cell B1 1 _ rfl
  have k2 : w'.cell? ⟨w.heap.size + 1, 2, none⟩ = some (.int .i64 p.col) := Kit.cell B1 2 _ rfl
  clear B0 B1
  have hne : (s.lines * s.columns == 0) = false := beq_eq_false_iff_ne.2 (by omega)
  have d1 : decide (p.frame < 0) = false := decide_eq_false (by omega)
  have d2 : decide (1099511627776 < p.frame) = false := decide_eq_false (by omega)
  have d3 : decide (p.line < 0) = false := decide_eq_false (by omega)
  have d4 : decide (s.lines ≤ p.line) = false := decide_eq_false (by omega)
  have d5 : decide (p.col < 0) = false := decide_eq_false (by omega)
  have d6 : decide (s.columns ≤ p.col) = false := decide_eq_false (by omega)
  have dk : decide (1099511627776 / (s.lines * s.columns) < p.frame) = true := decide_eq_true hk
  go_wp2_with fail
  go_region
  go_wp2_with fail
  go_ret2
  exact ⟨rfl, by go_grown⟩

theorem time_no7 (s : Scr) (p : Spt) (h : s.ok = true) (h1 : 0 ≤ p.frame) (h2 : p.frame ≤ 1099511627776) (h3 : 0 ≤ p.line) (h4 : p.line < s.lines) (h5 : 0 ≤ p.col) (h6 : p.col < s.columns) (h7 : p.frame ≤ 1099511627776 / (s.lines * s.columns)) (hk : 1099511627776 < s.at_ p) (w : World) :
    Calls Try.prog 40 #[s.val, p.val] w fun e w' => e = .returned (.tuple #[.int .i64 0, .int .i64 2]) ∧ Below w.heap.size w w' := by
  have hf := s.fits h
  have hl := length_calls s
  rw [Scr.len_yes h] at hl
  clear h
  obtain ⟨l1, l2, c1, c2, _, _, _, _, _, _, _, _, _, _, _, _, _, _, _, _, n1, n2⟩ := hf
  have m1 : 0 ≤ p.frame * (s.lines * s.columns) := Int.mul_nonneg h1 (by omega)
  have m2 : 0 ≤ p.line * s.columns := Int.mul_nonneg h3 (by omega)
  have m3 : p.frame * (s.lines * s.columns) ≤ 1099511627776 := Int.le_trans (Int.mul_le_mul_of_nonneg_right h7 (by omega)) (Int.ediv_mul_le _ (by omega))
  have m4 : p.line * s.columns ≤ 160000 := by
    have h := Int.mul_le_mul (show p.line ≤ 400 by omega) c2 (by omega) (by omega : (0:Int) ≤ 400); omega
  unfold Scr.val Scr.vals Spt.val at *
  have HL := Lib.hid hl; clear hl
  go_enter Try.func40, Try.ntmps40
  go_wp2_with fail
  refine (HL.out _).mono ?_; rintro e w' ⟨rfl, hb⟩
  have B0 := Kit.kept hb (Kit.blk2a _ _ _)
  have B1 := Kit.kept hb (Kit.blk2b _ _ _)
  have hB := Kit.then_ (Kit.below2 _ _ _) hb
  have hz := hb.size; simp at hz
  clear hb HL
  have g0 : w'.cell? ⟨w.heap.size, 0, none⟩ = some (.int .i64 s.lines) := Kit.cell B0 0 _ rfl
  have g1 : w'.cell? ⟨w.heap.size, 1, none⟩ = some (.int .i64 s.columns) := Kit.cell B0 1 _ rfl
  have k0 : w'.cell? ⟨w.heap.size + 1, 0, none⟩ = some (.int .i64 p.frame) := Kit.cell B1 0 _ rfl
  have k1 : w'.cell? ⟨w.heap.size + 1, 1, none⟩ = some (.int .i64 p.line) := Kit.cell B1 1 _ rfl
  have k2 : w'.cell? ⟨w.heap.size + 1, 2, none⟩ = some (.int .i64 p.col) := Kit.cell B1 2 _ rfl
  clear B0 B1
  have hne : (s.lines * s.columns == 0) = false := beq_eq_false_iff_ne.2 (by omega)
  have d1 : decide (p.frame < 0) = false := decide_eq_false (by omega)
  have d2 : decide (1099511627776 < p.frame) = false := decide_eq_false (by omega)
  have d3 : decide (p.line < 0) = false := decide_eq_false (by omega)
  have d4 : decide (s.lines ≤ p.line) = false := decide_eq_false (by omega)
  have d5 : decide (p.col < 0) = false := decide_eq_false (by omega)
  have d6 : decide (s.columns ≤ p.col) = false := decide_eq_false (by omega)
  have d7 : decide (1099511627776 / (s.lines * s.columns) < p.frame) = false := decide_eq_false (by omega)
  go_wp2_with fail
  go_region
  go_wp2_with fail
  unfold Scr.at_ at *
  refine (may_no _ (.inr hk) _).mono ?_; rintro e w' ⟨rfl, rfl⟩
  go_wp2_with fail
  go_ret2
  exact ⟨rfl, by go_grown⟩

theorem time_yes (s : Scr) (p : Spt) (h : s.ok = true) (h1 : 0 ≤ p.frame) (h2 : p.frame ≤ 1099511627776) (h3 : 0 ≤ p.line) (h4 : p.line < s.lines) (h5 : 0 ≤ p.col) (h6 : p.col < s.columns) (h7 : p.frame ≤ 1099511627776 / (s.lines * s.columns)) (hk : s.at_ p ≤ 1099511627776) (w : World) :
    Calls Try.prog 40 #[s.val, p.val] w fun e w' => e = .returned (.tuple #[.int .i64 (s.at_ p), .int .i64 0]) ∧ Below w.heap.size w w' := by
  have hf := s.fits h
  have hl := length_calls s
  rw [Scr.len_yes h] at hl
  clear h
  obtain ⟨l1, l2, c1, c2, _, _, _, _, _, _, _, _, _, _, _, _, _, _, _, _, n1, n2⟩ := hf
  have m1 : 0 ≤ p.frame * (s.lines * s.columns) := Int.mul_nonneg h1 (by omega)
  have m2 : 0 ≤ p.line * s.columns := Int.mul_nonneg h3 (by omega)
  have m3 : p.frame * (s.lines * s.columns) ≤ 1099511627776 := Int.le_trans (Int.mul_le_mul_of_nonneg_right h7 (by omega)) (Int.ediv_mul_le _ (by omega))
  have m4 : p.line * s.columns ≤ 160000 := by
    have h := Int.mul_le_mul (show p.line ≤ 400 by omega) c2 (by omega) (by omega : (0:Int) ≤ 400); omega
  unfold Scr.val Scr.vals Spt.val at *
  have HL := Lib.hid hl; clear hl
  go_enter Try.func40, Try.ntmps40
  go_wp2_with fail
  refine (HL.out _).mono ?_; rintro e w' ⟨rfl, hb⟩
  have B0 := Kit.kept hb (Kit.blk2a _ _ _)
  have B1 := Kit.kept hb (Kit.blk2b _ _ _)
  have hB := Kit.then_ (Kit.below2 _ _ _) hb
  have hz := hb.size; simp at hz
  clear hb HL
  have g0 : w'.cell? ⟨w.heap.size, 0, none⟩ = some (.int .i64 s.lines) := Kit.cell B0 0 _ rfl
  have g1 : w'.cell? ⟨w.heap.size, 1, none⟩ = some (.int .i64 s.columns) := Kit.cell B0 1 _ rfl
  have k0 : w'.cell? ⟨w.heap.size + 1, 0, none⟩ = some (.int .i64 p.frame) := Kit.cell B1 0 _ rfl
  have k1 : w'.cell? ⟨w.heap.size + 1, 1, none⟩ = some (.int .i64 p.line) := Kit.cell B1 1 _ rfl
  have k2 : w'.cell? ⟨w.heap.size + 1, 2, none⟩ = some (.int .i64 p.col) := Kit.cell B1 2 _ rfl
  clear B0 B1
  have hne : (s.lines * s.columns == 0) = false := beq_eq_false_iff_ne.2 (by omega)
  have d1 : decide (p.frame < 0) = false := decide_eq_false (by omega)
  have d2 : decide (1099511627776 < p.frame) = false := decide_eq_false (by omega)
  have d3 : decide (p.line < 0) = false := decide_eq_false (by omega)
  have d4 : decide (s.lines ≤ p.line) = false := decide_eq_false (by omega)
  have d5 : decide (p.col < 0) = false := decide_eq_false (by omega)
  have d6 : decide (s.columns ≤ p.col) = false := decide_eq_false (by omega)
  have d7 : decide (1099511627776 / (s.lines * s.columns) < p.frame) = false := decide_eq_false (by omega)
  go_wp2_with fail
  go_region
  go_wp2_with fail
  unfold Scr.at_ at *
  refine (may_yes _ (by omega) hk _).mono ?_; rintro e w' ⟨rfl, rfl⟩
  go_wp2_with fail
  go_ret2
  exact ⟨rfl, by go_grown⟩

def Scr.timeB (s : Scr) (p : Spt) : Bool := s.ok && decide (0 ≤ p.frame) && decide (p.frame ≤ 1099511627776) && decide (0 ≤ p.line) && decide (p.line < s.lines) && decide (0 ≤ p.col) && decide (p.col < s.columns)
  && decide (p.frame ≤ 1099511627776 / (s.lines * s.columns)) && decide (s.at_ p ≤ 1099511627776)
theorem time_calls_no (s : Scr) (p : Spt) (h : s.timeB p = false) (w : World) :
    Calls Try.prog 40 #[s.val, p.val] w fun e w' => e = .returned (.tuple #[.int .i64 0, .int .i64 2]) ∧ Below w.heap.size w w' := by
  cases ho : s.ok
  · exact time_no_ok s p ho w
  by_cases a1 : 0 ≤ p.frame
  case neg => exact time_no0 s p ho (by omega) w
  by_cases a2 : p.frame ≤ 1099511627776
  case neg => exact time_no1 s p ho a1 (by omega) w
  by_cases a3 : 0 ≤ p.line
  case neg => exact time_no2 s p ho a1 a2 (by omega) w
  by_cases a4 : p.line < s.lines
  case neg => exact time_no3 s p ho a1 a2 a3 (by omega) w
  by_cases a5 : 0 ≤ p.col
  case neg => exact time_no4 s p ho a1 a2 a3 a4 (by omega) w
  by_cases a6 : p.col < s.columns
  case neg => exact time_no5 s p ho a1 a2 a3 a4 a5 (by omega) w
  by_cases a7 : p.frame ≤ 1099511627776 / (s.lines * s.columns)
  case neg => exact time_no6 s p ho a1 a2 a3 a4 a5 a6 (by omega) w
  by_cases a8 : s.at_ p ≤ 1099511627776
  case neg => exact time_no7 s p ho a1 a2 a3 a4 a5 a6 a7 (by omega) w
  simp [Scr.timeB, ho, a1, a2, a3, a4, a5, a6, a7, a8] at h
theorem time_calls_yes (s : Scr) (p : Spt) (h : s.timeB p = true) (w : World) :
    Calls Try.prog 40 #[s.val, p.val] w fun e w' => e = .returned (.tuple #[.int .i64 (s.at_ p), .int .i64 0]) ∧ Below w.heap.size w w' := by
  simp only [Scr.timeB, Bool.and_eq_true, decide_eq_true_eq] at h
  obtain ⟨⟨⟨⟨⟨⟨⟨⟨a0, a1⟩, a2⟩, a3⟩, a4⟩, a5⟩, a6⟩, a7⟩, a8⟩ := h
  exact time_yes s p a0 a1 a2 a3 a4 a5 a6 a7 a8 w
end Go.Proofs.YthbbbmomlehimaaR.Ts
