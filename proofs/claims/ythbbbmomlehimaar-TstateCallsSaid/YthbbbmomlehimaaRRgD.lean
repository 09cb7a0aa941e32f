import Derived.Test.YthbbbmomlehimaaRRgB
import Derived.Test.YthbbbmomlehimaaRTsL
set_option linter.unusedVariables false
namespace Go.Proofs.YthbbbmomlehimaaR.Ts
open Go.RowKit Oc

set_option maxRecDepth 100000 in
theorem rtime_no_ok (s : Scr) (p : Spt) (h : s.ok = false) (w : World) :
    Calls Try.prog 45 #[s.val, p.val] w fun e w' => e = .returned (.tuple #[.int .i64 0, .int .i64 2]) ∧ Below w.heap.size w w' := by
  have hc := ref02_calls s
  rw [Scr.code_no h] at hc
  have HC := Lib.hid hc; clear hc h
  unfold Scr.val Scr.vals Spt.val at *
  go_enter Try.func45, Try.ntmps45
  go_wp2_with fail
  refine (HC.out _).mono ?_; rintro e W ⟨rfl, hb⟩
  have B0 := Kit.kept hb (Kit.blk2a _ _ _)
  have B1 := Kit.kept hb (Kit.blk2b _ _ _)
  have hB := Kit.then_ (Kit.below2 _ _ _) hb
  clear hb
  have a0 : W.cell? ⟨w.heap.size, 0, none⟩ = some (.int .i64 s.lines) := Kit.cell B0 0 _ rfl
  have a1 : W.cell? ⟨w.heap.size, 1, none⟩ = some (.int .i64 s.columns) := Kit.cell B0 1 _ rfl
  have a2 : W.cell? ⟨w.heap.size, 2, none⟩ = some (.int .i64 s.top) := Kit.cell B0 2 _ rfl
  have a3 : W.cell? ⟨w.heap.size, 3, none⟩ = some (.int .i64 s.rows) := Kit.cell B0 3 _ rfl
  have a4 : W.cell? ⟨w.heap.size, 4, none⟩ = some (.int .i64 s.left) := Kit.cell B0 4 _ rfl
  have a5 : W.cell? ⟨w.heap.size, 5, none⟩ = some (.int .i64 s.wide) := Kit.cell B0 5 _ rfl
  have a6 : W.cell? ⟨w.heap.size, 6, none⟩ = some (.int .i64 s.pulse) := Kit.cell B0 6 _ rfl
  have k0 : W.cell? ⟨w.heap.size + 1, 0, none⟩ = some (.int .i64 p.frame) := Kit.cell B1 0 _ rfl
  have k1 : W.cell? ⟨w.heap.size + 1, 1, none⟩ = some (.int .i64 p.line) := Kit.cell B1 1 _ rfl
  have k2 : W.cell? ⟨w.heap.size + 1, 2, none⟩ = some (.int .i64 p.col) := Kit.cell B1 2 _ rfl
  clear B0 B1
  have HB := Lib.hid hB; clear hB
  go_wp2_with fail
  go_ret2
  exact ⟨rfl, HB.out⟩

set_option maxRecDepth 100000 in
theorem rtime_no0 (s : Scr) (p : Spt) (h : s.ok = true)  (hk : p.frame < 0) (w : World) :
    Calls Try.prog 45 #[s.val, p.val] w fun e w' => e = .returned (.tuple #[.int .i64 0, .int .i64 2]) ∧ Below w.heap.size w w' := by
  have hf := s.fits h
  have hc := ref02_calls s
  rw [Scr.code_yes h] at hc
  have HC := Lib.hid hc; clear hc
  clear h
  obtain ⟨l1, l2, c1, c2, _, _, _, _, _, _, _, _, _, _, _, _, _, _, _, _, n1, n2⟩ := hf
  have dk : decide (p.frame < 0) = true := decide_eq_true hk
  unfold Scr.val Scr.vals Spt.val at *
  go_enter Try.func45, Try.ntmps45
  go_wp2_with fail
  refine (HC.out _).mono ?_; rintro e W ⟨rfl, hb⟩
  have B0 := Kit.kept hb (Kit.blk2a _ _ _)
  have B1 := Kit.kept hb (Kit.blk2b _ _ _)
  have hB := Kit.then_ (Kit.below2 _ _ _) hb
  clear hb
  have a0 : W.cell? ⟨w.heap.size, 0, none⟩ = some (.int .i64 s.lines) := Kit.cell B0 0 _ rfl
  have a1 : W.cell? ⟨w.heap.size, 1, none⟩ = some (.int .i64 s.columns) := Kit.cell B0 1 _ rfl
  have a2 : W.cell? ⟨w.heap.size, 2, none⟩ = some (.int .i64 s.top) := Kit.cell B0 2 _ rfl
  have a3 : W.cell? ⟨w.heap.size, 3, none⟩ = some (.int .i64 s.rows) := Kit.cell B0 3 _ rfl
  have a4 : W.cell? ⟨w.heap.size, 4, none⟩ = some (.int .i64 s.left) := Kit.cell B0 4 _ rfl
  have a5 : W.cell? ⟨w.heap.size, 5, none⟩ = some (.int .i64 s.wide) := Kit.cell B0 5 _ rfl
  have a6 : W.cell? ⟨w.heap.size, 6, none⟩ = some (.int .i64 s.pulse) := Kit.cell B0 6 _ rfl
  have k0 : W.cell? ⟨w.heap.size + 1, 0, none⟩ = some (.int .i64 p.frame) := Kit.cell B1 0 _ rfl
  have k1 : W.cell? ⟨w.heap.size + 1, 1, none⟩ = some (.int .i64 p.line) := Kit.cell B1 1 _ rfl
  have k2 : W.cell? ⟨w.heap.size + 1, 2, none⟩ = some (.int .i64 p.col) := Kit.cell B1 2 _ rfl
  clear B0 B1
  have HB := Lib.hid hB; clear hB
  go_wp2_with fail
  go_ret2
  exact ⟨rfl, HB.out⟩

set_option maxRecDepth 100000 in
theorem rtime_no1 (s : Scr) (p : Spt) (h : s.ok = true) (h1 : 0 ≤ p.frame) (hk : 1099511627776 < p.frame) (w : World) :
    Calls Try.prog 45 #[s.val, p.val] w fun e w' => e = .returned (.tuple #[.int .i64 0, .int .i64 2]) ∧ Below w.heap.size w w' := by
  have hf := s.fits h
  have hc := ref02_calls s
  rw [Scr.code_yes h] at hc
  have HC := Lib.hid hc; clear hc
  clear h
  obtain ⟨l1, l2, c1, c2, _, _, _, _, _, _, _, _, _, _, _, _, _, _, _, _, n1, n2⟩ := hf
  have d1 : decide (p.frame < 0) = false := decide_eq_false (by omega)
  have dk : decide (1099511627776 < p.frame) = true := decide_eq_true hk
  unfold Scr.val Scr.vals Spt.val at *
  go_enter Try.func45, Try.ntmps45
  go_wp2_with fail
  refine (HC.out _).mono ?_; rintro e W ⟨rfl, hb⟩
  have B0 := Kit.kept hb (Kit.blk2a _ _ _)
  have B1 := Kit.kept hb (Kit.blk2b _ _ _)
  have hB := Kit.then_ (Kit.below2 _ _ _) hb
  clear hb
  have a0 : W.cell? ⟨w.heap.size, 0, none⟩ = some (.int .i64 s.lines) := Kit.cell B0 0 _ rfl
  have a1 : W.cell? ⟨w.heap.size, 1, none⟩ = some (.int .i64 s.columns) := Kit.cell B0 1 _ rfl
  have a2 : W.cell? ⟨w.heap.size, 2, none⟩ = some (.int .i64 s.top) := Kit.cell B0 2 _ rfl
  have a3 : W.cell? ⟨w.heap.size, 3, none⟩ = some (.int .i64 s.rows) := Kit.cell B0 3 _ rfl
  have a4 : W.cell? ⟨w.heap.size, 4, none⟩ = some (.int .i64 s.left) := Kit.cell B0 4 _ rfl
  have a5 : W.cell? ⟨w.heap.size, 5, none⟩ = some (.int .i64 s.wide) := Kit.cell B0 5 _ rfl
  have a6 : W.cell? ⟨w.heap.size, 6, none⟩ = some (.int .i64 s.pulse) := Kit.cell B0 6 _ rfl
  have k0 : W.cell? ⟨w.heap.size + 1, 0, none⟩ = some (.int .i64 p.frame) := Kit.cell B1 0 _ rfl
  have k1 : W.cell? ⟨w.heap.size + 1, 1, none⟩ = some (.int .i64 p.line) := Kit.cell B1 1 _ rfl
  have k2 : W.cell? ⟨w.heap.size + 1, 2, none⟩ = some (.int .i64 p.col) := Kit.cell B1 2 _ rfl
  clear B0 B1
  have HB := Lib.hid hB; clear hB
  go_wp2_with fail
  go_ret2
  exact ⟨rfl, HB.out⟩

set_option maxRecDepth 100000 in
theorem rtime_no2 (s : Scr) (p : Spt) (h : s.ok = true) (h1 : 0 ≤ p.frame) (h2 : p.frame ≤ 1099511627776) (hk : p.line < 0) (w : World) :
    Calls Try.prog 45 #[s.val, p.val] w fun e w' => e = .returned (.tuple #[.int .i64 0, .int .i64 2]) ∧ Below w.heap.size w w' := by
  have hf := s.fits h
  have hc := ref02_calls s
  rw [Scr.code_yes h] at hc
  have HC := Lib.hid hc; clear hc
  clear h
  obtain ⟨l1, l2, c1, c2, _, _, _, _, _, _, _, _, _, _, _, _, _, _, _, _, n1, n2⟩ := hf
  have d1 : decide (p.frame < 0) = false := decide_eq_false (by omega)
  have d2 : decide (1099511627776 < p.frame) = false := decide_eq_false (by omega)
  have dk : decide (p.line < 0) = true := decide_eq_true hk
  unfold Scr.val Scr.vals Spt.val at *
  go_enter Try.func45, Try.ntmps45
  go_wp2_with fail
  refine (HC.out _).mono ?_; rintro e W ⟨rfl, hb⟩
  have B0 := Kit.kept hb (Kit.blk2a _ _ _)
  have B1 := Kit.kept hb (Kit.blk2b _ _ _)
  have hB := Kit.then_ (Kit.below2 _ _ _) hb
  clear hb
  have a0 : W.cell? ⟨w.heap.size, 0, none⟩ = some (.int .i64 s.lines) := Kit.cell B0 0 _ rfl
  have a1 : W.cell? ⟨w.heap.size, 1, none⟩ = some (.int .i64 s.columns) := Kit.cell B0 1 _ rfl
  have a2 : W.cell? ⟨w.heap.size, 2, none⟩ = some (.int .i64 s.top) := Kit.cell B0 2 _ rfl
  have a3 : W.cell? ⟨w.heap.size, 3, none⟩ = some (.int .i64 s.rows) := Kit.cell B0 3 _ rfl
  have a4 : W.cell? ⟨w.heap.size, 4, none⟩ = some (.int .i64 s.left) := Kit.cell B0 4 _ rfl
  have a5 : W.cell? ⟨w.heap.size, 5, none⟩ = some (.int .i64 s.wide) := Kit.cell B0 5 _ rfl
  have a6 : W.cell? ⟨w.heap.size, 6, none⟩ = some (.int .i64 s.pulse) := Kit.cell B0 6 _ rfl
  have k0 : W.cell? ⟨w.heap.size + 1, 0, none⟩ = some (.int .i64 p.frame) := Kit.cell B1 0 _ rfl
  have k1 : W.cell? ⟨w.heap.size + 1, 1, none⟩ = some (.int .i64 p.line) := Kit.cell B1 1 _ rfl
  have k2 : W.cell? ⟨w.heap.size + 1, 2, none⟩ = some (.int .i64 p.col) := Kit.cell B1 2 _ rfl
  clear B0 B1
  have HB := Lib.hid hB; clear hB
  go_wp2_with fail
  go_ret2
  exact ⟨rfl, HB.out⟩

set_option maxRecDepth 100000 in
theorem rtime_no3 (s : Scr) (p : Spt) (h : s.ok = true) (h1 : 0 ≤ p.frame) (h2 : p.frame ≤ 1099511627776) (h3 : 0 ≤ p.line) (hk : s.lines ≤ p.line) (w : World) :
    Calls Try.prog 45 #[s.val, p.val] w fun e w' => e = .returned (.tuple #[.int .i64 0, .int .i64 2]) ∧ Below w.heap.size w w' := by
  have hf := s.fits h
  have hc := ref02_calls s
  rw [Scr.code_yes h] at hc
  have HC := Lib.hid hc; clear hc
  clear h
  obtain ⟨l1, l2, c1, c2, _, _, _, _, _, _, _, _, _, _, _, _, _, _, _, _, n1, n2⟩ := hf
  have d1 : decide (p.frame < 0) = false := decide_eq_false (by omega)
  have d2 : decide (1099511627776 < p.frame) = false := decide_eq_false (by omega)
  have d3 : decide (p.line < 0) = false := decide_eq_false (by omega)
  have dk : decide (s.lines ≤ p.line) = true := decide_eq_true hk
  unfold Scr.val Scr.vals Spt.val at *
  go_enter Try.func45, Try.ntmps45
  go_wp2_with fail
  refine (HC.out _).mono ?_; rintro e W ⟨rfl, hb⟩
  have B0 := Kit.kept hb (Kit.blk2a _ _ _)
  have B1 := Kit.kept hb (Kit.blk2b _ _ _)
  have hB := Kit.then_ (Kit.below2 _ _ _) hb
  clear hb
  have a0 : W.cell? ⟨w.heap.size, 0, none⟩ = some (.int .i64 s.lines) := Kit.cell B0 0 _ rfl
  have a1 : W.cell? ⟨w.heap.size, 1, none⟩ = some (.int .i64 s.columns) := Kit.cell B0 1 _ rfl
  have a2 : W.cell? ⟨w.heap.size, 2, none⟩ = some (.int .i64 s.top) := Kit.cell B0 2 _ rfl
  have a3 : W.cell? ⟨w.heap.size, 3, none⟩ = some (.int .i64 s.rows) := Kit.cell B0 3 _ rfl
  have a4 : W.cell? ⟨w.heap.size, 4, none⟩ = some (.int .i64 s.left) := Kit.cell B0 4 _ rfl
  have a5 : W.cell? ⟨w.heap.size, 5, none⟩ = some (.int .i64 s.wide) := Kit.cell B0 5 _ rfl
  have a6 : W.cell? ⟨w.heap.size, 6, none⟩ = some (.int .i64 s.pulse) := Kit.cell B0 6 _ rfl
  have k0 : W.cell? ⟨w.heap.size + 1, 0, none⟩ = some (.int .i64 p.frame) := Kit.cell B1 0 _ rfl
  have k1 : W.cell? ⟨w.heap.size + 1, 1, none⟩ = some (.int .i64 p.line) := Kit.cell B1 1 _ rfl
  have k2 : W.cell? ⟨w.heap.size + 1, 2, none⟩ = some (.int .i64 p.col) := Kit.cell B1 2 _ rfl
  clear B0 B1
  have HB := Lib.hid hB; clear hB
  go_wp2_with fail
  go_ret2
  exact ⟨rfl, HB.out⟩

set_option maxRecDepth 100000 in
theorem rtime_no4 (s : Scr) (p : Spt) (h : s.ok = true) (h1 : 0 ≤ p.frame) (h2 : p.frame ≤ 1099511627776) (h3 : 0 ≤ p.line) (h4 : p.line < s.lines) (hk : p.col < 0) (w : World) :
    Calls Try.prog 45 #[s.val, p.val] w fun e w' => e = .returned (.tuple #[.int .i64 0, .int .i64 2]) ∧ Below w.heap.size w w' := by
  have hf := s.fits h
  have hc := ref02_calls s
  rw [Scr.code_yes h] at hc
  have HC := Lib.hid hc; clear hc
  clear h
  obtain ⟨l1, l2, c1, c2, _, _, _, _, _, _, _, _, _, _, _, _, _, _, _, _, n1, n2⟩ := hf
  have d1 : decide (p.frame < 0) = false := decide_eq_false (by omega)
  have d2 : decide (1099511627776 < p.frame) = false := decide_eq_false (by omega)
  have d3 : decide (p.line < 0) = false := decide_eq_false (by omega)
  have d4 : decide (s.lines ≤ p.line) = false := decide_eq_false (by omega)
  have dk : decide (p.col < 0) = true := decide_eq_true hk
  unfold Scr.val Scr.vals Spt.val at *
  go_enter Try.func45, Try.ntmps45
  go_wp2_with fail
  refine (HC.out _).mono ?_; rintro e W ⟨rfl, hb⟩
  have B0 := Kit.kept hb (Kit.blk2a _ _ _)
  have B1 := Kit.kept hb (Kit.blk2b _ _ _)
  have hB := Kit.then_ (Kit.below2 _ _ _) hb
  clear hb
  have a0 : W.cell? ⟨w.heap.size, 0, none⟩ = some (.int .i64 s.lines) := Kit.cell B0 0 _ rfl
  have a1 : W.cell? ⟨w.heap.size, 1, none⟩ = some (.int .i64 s.columns) := Kit.cell B0 1 _ rfl
  have a2 : W.cell? ⟨w.heap.size, 2, none⟩ = some (.int .i64 s.top) := Kit.cell B0 2 _ rfl
  have a3 : W.cell? ⟨w.heap.size, 3, none⟩ = some (.int .i64 s.rows) := Kit.cell B0 3 _ rfl
  have a4 : W.cell? ⟨w.heap.size, 4, none⟩ = some (.int .i64 s.left) := Kit.cell B0 4 _ rfl
  have a5 : W.cell? ⟨w.heap.size, 5, none⟩ = some (.int .i64 s.wide) := Kit.cell B0 5 _ rfl
  have a6 : W.cell? ⟨w.heap.size, 6, none⟩ = some (.int .i64 s.pulse) := Kit.cell B0 6 _ rfl
  have k0 : W.cell? ⟨w.heap.size + 1, 0, none⟩ = some (.int .i64 p.frame) := Kit.cell B1 0 _ rfl
  have k1 : W.cell? ⟨w.heap.size + 1, 1, none⟩ = some (.int .i64 p.line) := Kit.cell B1 1 _ rfl
  have k2 : W.cell? ⟨w.heap.size + 1, 2, none⟩ = some (.int .i64 p.col) := Kit.cell B1 2 _ rfl
  clear B0 B1
  have HB := Lib.hid hB; clear hB
  go_wp2_with fail
  go_ret2
  exact ⟨rfl, HB.out⟩

set_option maxRecDepth 100000 in
theorem rtime_no5 (s : Scr) (p : Spt) (h : s.ok = true) (h1 : 0 ≤ p.frame) (h2 : p.frame ≤ 1099511627776) (h3 : 0 ≤ p.line) (h4 : p.line < s.lines) (h5 : 0 ≤ p.col) (hk : s.columns ≤ p.col) (w : World) :
    Calls Try.prog 45 #[s.val, p.val] w fun e w' => e = .returned (.tuple #[.int .i64 0, .int .i64 2]) ∧ Below w.heap.size w w' := by
  have hf := s.fits h
  have hc := ref02_calls s
  rw [Scr.code_yes h] at hc
  have HC := Lib.hid hc; clear hc
  clear h
  obtain ⟨l1, l2, c1, c2, _, _, _, _, _, _, _, _, _, _, _, _, _, _, _, _, n1, n2⟩ := hf
  have d1 : decide (p.frame < 0) = false := decide_eq_false (by omega)
  have d2 : decide (1099511627776 < p.frame) = false := decide_eq_false (by omega)
  have d3 : decide (p.line < 0) = false := decide_eq_false (by omega)
  have d4 : decide (s.lines ≤ p.line) = false := decide_eq_false (by omega)
  have d5 : decide (p.col < 0) = false := decide_eq_false (by omega)
  have dk : decide (s.columns ≤ p.col) = true := decide_eq_true hk
  unfold Scr.val Scr.vals Spt.val at *
  go_enter Try.func45, Try.ntmps45
  go_wp2_with fail
  refine (HC.out _).mono ?_; rintro e W ⟨rfl, hb⟩
  have B0 := Kit.kept hb (Kit.blk2a _ _ _)
  have B1 := Kit.kept hb (Kit.blk2b _ _ _)
  have hB := Kit.then_ (Kit.below2 _ _ _) hb
  clear hb
  have a0 : W.cell? ⟨w.heap.size, 0, none⟩ = some (.int .i64 s.lines) := Kit.cell B0 0 _ rfl
  have a1 : W.cell? ⟨w.heap.size, 1, none⟩ = some (.int .i64 s.columns) := Kit.cell B0 1 _ rfl
  have a2 : W.cell? ⟨w.heap.size, 2, none⟩ = some (.int .i64 s.top) := Kit.cell B0 2 _ rfl
  have a3 : W.cell? ⟨w.heap.size, 3, none⟩ = some (.int .i64 s.rows) := Kit.cell B0 3 _ rfl
  have a4 : W.cell? ⟨w.heap.size, 4, none⟩ = some (.int .i64 s.left) := Kit.cell B0 4 _ rfl
  have a5 : W.cell? ⟨w.heap.size, 5, none⟩ = some (.int .i64 s.wide) := Kit.cell B0 5 _ rfl
  have a6 : W.cell? ⟨w.heap.size, 6, none⟩ = some (.int .i64 s.pulse) := Kit.cell B0 6 _ rfl
  have k0 : W.cell? ⟨w.heap.size + 1, 0, none⟩ = some (.int .i64 p.frame) := Kit.cell B1 0 _ rfl
  have k1 : W.cell? ⟨w.heap.size + 1, 1, none⟩ = some (.int .i64 p.line) := Kit.cell B1 1 _ rfl
  have k2 : W.cell? ⟨w.heap.size + 1, 2, none⟩ = some (.int .i64 p.col) := Kit.cell B1 2 _ rfl
  clear B0 B1
  have HB := Lib.hid hB; clear hB
  go_wp2_with fail
  go_ret2
  exact ⟨rfl, HB.out⟩

set_option maxRecDepth 100000 in
theorem rtime_no6 (s : Scr) (p : Spt) (h : s.ok = true) (h1 : 0 ≤ p.frame) (h2 : p.frame ≤ 1099511627776) (h3 : 0 ≤ p.line) (h4 : p.line < s.lines) (h5 : 0 ≤ p.col) (h6 : p.col < s.columns) (hk : 1099511627776 < s.at_ p) (w : World) :
    Calls Try.prog 45 #[s.val, p.val] w fun e w' => e = .returned (.tuple #[.int .i64 0, .int .i64 2]) ∧ Below w.heap.size w w' := by
  have hf := s.fits h
  have hc := ref02_calls s
  rw [Scr.code_yes h] at hc
  have HC := Lib.hid hc; clear hc
  have hl := ref02_length s
  rw [Scr.len_yes h] at hl
  have HL := Lib.hid hl; clear hl
  clear h
  obtain ⟨l1, l2, c1, c2, _, _, _, _, _, _, _, _, _, _, _, _, _, _, _, _, n1, n2⟩ := hf
  have m1 : 0 ≤ p.frame * (s.lines * s.columns) := Int.mul_nonneg h1 (by omega)
  have m2 : 0 ≤ p.line * s.columns := Int.mul_nonneg h3 (by omega)
  have m3 : p.frame * (s.lines * s.columns) ≤ 1099511627776 * 160000 := Int.mul_le_mul h2 n2 (by omega) (by omega)
  have m4 : p.line * s.columns ≤ 160000 := by
    have h := Int.mul_le_mul (show p.line ≤ 400 by omega) c2 (by omega) (by omega : (0:Int) ≤ 400); omega
  have hm := rmay_calls (s.at_ p)
  rw [show mayB (s.at_ p) = false by unfold mayB; rw [decide_eq_false (show ¬ s.at_ p ≤ 1099511627776 by omega), Bool.and_false]] at hm
  have HM := Lib.hid hm; clear hm
  have HE : Hid (s.at_ p = p.frame * (s.lines * s.columns) + (p.line * s.columns + p.col)) := by unfold Scr.at_ Hid; omega
  have d1 : decide (p.frame < 0) = false := decide_eq_false (by omega)
  have d2 : decide (1099511627776 < p.frame) = false := decide_eq_false (by omega)
  have d3 : decide (p.line < 0) = false := decide_eq_false (by omega)
  have d4 : decide (s.lines ≤ p.line) = false := decide_eq_false (by omega)
  have d5 : decide (p.col < 0) = false := decide_eq_false (by omega)
  have d6 : decide (s.columns ≤ p.col) = false := decide_eq_false (by omega)
  unfold Scr.val Scr.vals Spt.val at *
  go_enter Try.func45, Try.ntmps45
  go_wp2_with fail
  refine (HC.out _).mono ?_; rintro e W ⟨rfl, hb⟩
  have B0 := Kit.kept hb (Kit.blk2a _ _ _)
  have B1 := Kit.kept hb (Kit.blk2b _ _ _)
  have hB := Kit.then_ (Kit.below2 _ _ _) hb
  clear hb
  have a0 : W.cell? ⟨w.heap.size, 0, none⟩ = some (.int .i64 s.lines) := Kit.cell B0 0 _ rfl
  have a1 : W.cell? ⟨w.heap.size, 1, none⟩ = some (.int .i64 s.columns) := Kit.cell B0 1 _ rfl
  have a2 : W.cell? ⟨w.heap.size, 2, none⟩ = some (.int .i64 s.top) := Kit.cell B0 2 _ rfl
  have a3 : W.cell? ⟨w.heap.size, 3, none⟩ = some (.int .i64 s.rows) := Kit.cell B0 3 _ rfl
  have a4 : W.cell? ⟨w.heap.size, 4, none⟩ = some (.int .i64 s.left) := Kit.cell B0 4 _ rfl
  have a5 : W.cell? ⟨w.heap.size, 5, none⟩ = some (.int .i64 s.wide) := Kit.cell B0 5 _ rfl
  have a6 : W.cell? ⟨w.heap.size, 6, none⟩ = some (.int .i64 s.pulse) := Kit.cell B0 6 _ rfl
  have k0 : W.cell? ⟨w.heap.size + 1, 0, none⟩ = some (.int .i64 p.frame) := Kit.cell B1 0 _ rfl
  have k1 : W.cell? ⟨w.heap.size + 1, 1, none⟩ = some (.int .i64 p.line) := Kit.cell B1 1 _ rfl
  have k2 : W.cell? ⟨w.heap.size + 1, 2, none⟩ = some (.int .i64 p.col) := Kit.cell B1 2 _ rfl
  clear B0 B1
  have HB := Lib.hid hB; clear hB
  have y0 := fun d os => cell_regrown a0 d os
  have y1 := fun d os => cell_regrown a1 d os
  have y2 := fun d os => cell_regrown a2 d os
  have y3 := fun d os => cell_regrown a3 d os
  have y4 := fun d os => cell_regrown a4 d os
  have y5 := fun d os => cell_regrown a5 d os
  have y6 := fun d os => cell_regrown a6 d os
  have z0 := fun d os => cell_regrown k0 d os
  have z1 := fun d os => cell_regrown k1 d os
  have z2 := fun d os => cell_regrown k2 d os
  go_wp2_with fail
  clear a0 a1 a2 a3 a4 a5 a6 k0 k1 k2
  refine wp_region_quiet_below (by kernel_rfl) (by kernel_rfl) ?_
  repeat (go_big_quiet_step ((exact Calls.regrown_of (HL.out _))))
  refine wpQuiet_nil ?_
  intro _ hw'
  obtain ⟨⟨dq, osq⟩, hw''⟩ := hw'
  subst hw''
  have hbb := below_regrown W dq osq
  generalize Sort.grow (redrawn W dq) osq = w1 at *
  clear y0 y1 y2 y3 y4 y5 y6 z0 z1 z2
  have HB1 := Lib.hid (Kit.then_ HB.out hbb); clear hbb
  rw [← HE.out]
  go_wp2_with fail
  refine (HM.out _).mono ?_; rintro e w2 ⟨rfl, hb⟩
  have HB2 := Lib.hid (Kit.then_ HB1.out hb); clear hb
  go_wp2_with fail
  go_ret2
  exact ⟨rfl, HB2.out⟩

set_option maxRecDepth 100000 in
theorem rtime_yes (s : Scr) (p : Spt) (h : s.ok = true) (h1 : 0 ≤ p.frame) (h2 : p.frame ≤ 1099511627776) (h3 : 0 ≤ p.line) (h4 : p.line < s.lines) (h5 : 0 ≤ p.col) (h6 : p.col < s.columns) (hk : s.at_ p ≤ 1099511627776) (w : World) :
    Calls Try.prog 45 #[s.val, p.val] w fun e w' => e = .returned (.tuple #[.int .i64 (s.at_ p), .int .i64 0]) ∧ Below w.heap.size w w' := by
  have hf := s.fits h
  have hc := ref02_calls s
  rw [Scr.code_yes h] at hc
  have HC := Lib.hid hc; clear hc
  have hl := ref02_length s
  rw [Scr.len_yes h] at hl
  have HL := Lib.hid hl; clear hl
  clear h
  obtain ⟨l1, l2, c1, c2, _, _, _, _, _, _, _, _, _, _, _, _, _, _, _, _, n1, n2⟩ := hf
  have m1 : 0 ≤ p.frame * (s.lines * s.columns) := Int.mul_nonneg h1 (by omega)
  have m2 : 0 ≤ p.line * s.columns := Int.mul_nonneg h3 (by omega)
  have m3 : p.frame * (s.lines * s.columns) ≤ 1099511627776 * 160000 := Int.mul_le_mul h2 n2 (by omega) (by omega)
  have m4 : p.line * s.columns ≤ 160000 := by
    have h := Int.mul_le_mul (show p.line ≤ 400 by omega) c2 (by omega) (by omega : (0:Int) ≤ 400); omega
  have hm := rmay_calls (s.at_ p)
  rw [show mayB (s.at_ p) = true by unfold mayB; rw [decide_eq_true (show 0 ≤ s.at_ p by unfold Scr.at_; omega), decide_eq_true hk]; rfl] at hm
  have HM := Lib.hid hm; clear hm
  have HE : Hid (s.at_ p = p.frame * (s.lines * s.columns) + (p.line * s.columns + p.col)) := by unfold Scr.at_ Hid; omega
  have d1 : decide (p.frame < 0) = false := decide_eq_false (by omega)
  have d2 : decide (1099511627776 < p.frame) = false := decide_eq_false (by omega)
  have d3 : decide (p.line < 0) = false := decide_eq_false (by omega)
  have d4 : decide (s.lines ≤ p.line) = false := decide_eq_false (by omega)
  have d5 : decide (p.col < 0) = false := decide_eq_false (by omega)
  have d6 : decide (s.columns ≤ p.col) = false := decide_eq_false (by omega)
  unfold Scr.val Scr.vals Spt.val at *
  go_enter Try.func45, Try.ntmps45
  go_wp2_with fail
  refine (HC.out _).mono ?_; rintro e W ⟨rfl, hb⟩
  have B0 := Kit.kept hb (Kit.blk2a _ _ _)
  have B1 := Kit.kept hb (Kit.blk2b _ _ _)
  have hB := Kit.then_ (Kit.below2 _ _ _) hb
  clear hb
  have a0 : W.cell? ⟨w.heap.size, 0, none⟩ = some (.int .i64 s.lines) := Kit.cell B0 0 _ rfl
  have a1 : W.cell? ⟨w.heap.size, 1, none⟩ = some (.int .i64 s.columns) := Kit.cell B0 1 _ rfl
  have a2 : W.cell? ⟨w.heap.size, 2, none⟩ = some (.int .i64 s.top) := Kit.cell B0 2 _ rfl
  have a3 : W.cell? ⟨w.heap.size, 3, none⟩ = some (.int .i64 s.rows) := Kit.cell B0 3 _ rfl
  have a4 : W.cell? ⟨w.heap.size, 4, none⟩ = some (.int .i64 s.left) := Kit.cell B0 4 _ rfl
  have a5 : W.cell? ⟨w.heap.size, 5, none⟩ = some (.int .i64 s.wide) := Kit.cell B0 5 _ rfl
  have a6 : W.cell? ⟨w.heap.size, 6, none⟩ = some (.int .i64 s.pulse) := Kit.cell B0 6 _ rfl
  have k0 : W.cell? ⟨w.heap.size + 1, 0, none⟩ = some (.int .i64 p.frame) := Kit.cell B1 0 _ rfl
  have k1 : W.cell? ⟨w.heap.size + 1, 1, none⟩ = some (.int .i64 p.line) := Kit.cell B1 1 _ rfl
  have k2 : W.cell? ⟨w.heap.size + 1, 2, none⟩ = some (.int .i64 p.col) := Kit.cell B1 2 _ rfl
  clear B0 B1
  have HB := Lib.hid hB; clear hB
  have y0 := fun d os => cell_regrown a0 d os
  have y1 := fun d os => cell_regrown a1 d os
  have y2 := fun d os => cell_regrown a2 d os
  have y3 := fun d os => cell_regrown a3 d os
  have y4 := fun d os => cell_regrown a4 d os
  have y5 := fun d os => cell_regrown a5 d os
  have y6 := fun d os => cell_regrown a6 d os
  have z0 := fun d os => cell_regrown k0 d os
  have z1 := fun d os => cell_regrown k1 d os
  have z2 := fun d os => cell_regrown k2 d os
  go_wp2_with fail
  clear a0 a1 a2 a3 a4 a5 a6 k0 k1 k2
  refine wp_region_quiet_below (by kernel_rfl) (by kernel_rfl) ?_
  repeat (go_big_quiet_step ((exact Calls.regrown_of (HL.out _))))
  refine wpQuiet_nil ?_
  intro _ hw'
  obtain ⟨⟨dq, osq⟩, hw''⟩ := hw'
  subst hw''
  have hbb := below_regrown W dq osq
  generalize Sort.grow (redrawn W dq) osq = w1 at *
  clear y0 y1 y2 y3 y4 y5 y6 z0 z1 z2
  have HB1 := Lib.hid (Kit.then_ HB.out hbb); clear hbb
  rw [← HE.out]
  go_wp2_with fail
  refine (HM.out _).mono ?_; rintro e w2 ⟨rfl, hb⟩
  have HB2 := Lib.hid (Kit.then_ HB1.out hb); clear hb
  go_wp2_with fail
  go_ret2
  exact ⟨rfl, HB2.out⟩

theorem rtime_calls_no (s : Scr) (p : Spt) (h : s.timeB p = false) (w : World) :
    Calls Try.prog 45 #[s.val, p.val] w fun e w' => e = .returned (.tuple #[.int .i64 0, .int .i64 2]) ∧ Below w.heap.size w w' := by
  cases ho : s.ok
  · exact rtime_no_ok s p ho w
  by_cases a1 : 0 ≤ p.frame
  case neg => exact rtime_no0 s p ho (by omega) w
  by_cases a2 : p.frame ≤ 1099511627776
  case neg => exact rtime_no1 s p ho a1 (by omega) w
  by_cases a3 : 0 ≤ p.line
  case neg => exact rtime_no2 s p ho a1 a2 (by omega) w
  by_cases a4 : p.line < s.lines
  case neg => exact rtime_no3 s p ho a1 a2 a3 (by omega) w
  by_cases a5 : 0 ≤ p.col
  case neg => exact rtime_no4 s p ho a1 a2 a3 a4 (by omega) w
  by_cases a6 : p.col < s.columns
  case neg => exact rtime_no5 s p ho a1 a2 a3 a4 a5 (by omega) w
  by_cases a8 : s.at_ p ≤ 1099511627776
  case neg => exact rtime_no6 s p ho a1 a2 a3 a4 a5 a6 (by omega) w
  have hf := s.fits ho
  obtain ⟨l1, l2, c1, c2, _, _, _, _, _, _, _, _, _, _, _, _, _, _, _, _, n1, n2⟩ := hf
  have m2 : 0 ≤ p.line * s.columns := Int.mul_nonneg a3 (by omega)
  have a7 : p.frame ≤ 1099511627776 / (s.lines * s.columns) := by
    rw [Int.le_ediv_iff_mul_le (by omega)]
    unfold Scr.at_ at a8
    omega
  simp [Scr.timeB, ho, a1, a2, a3, a4, a5, a6, a7, a8] at h
theorem rtime_calls_yes (s : Scr) (p : Spt) (h : s.timeB p = true) (w : World) :
    Calls Try.prog 45 #[s.val, p.val] w fun e w' => e = .returned (.tuple #[.int .i64 (s.at_ p), .int .i64 0]) ∧ Below w.heap.size w w' := by
  simp only [Scr.timeB, Bool.and_eq_true, decide_eq_true_eq] at h
  obtain ⟨⟨⟨⟨⟨⟨⟨⟨a0, a1⟩, a2⟩, a3⟩, a4⟩, a5⟩, a6⟩, a7⟩, a8⟩ := h
  exact rtime_yes s p a0 a1 a2 a3 a4 a5 a6 a8 w
end Go.Proofs.YthbbbmomlehimaaR.Ts
