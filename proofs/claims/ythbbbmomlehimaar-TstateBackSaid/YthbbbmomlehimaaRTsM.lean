import Derived.Test.YthbbbmomlehimaaRTsL
import Derived.Test.YthbbbmomlehimaaRTsK
import Derived.Deep.Cut
set_option linter.unusedVariables false
namespace Go.Proofs.YthbbbmomlehimaaR.Ts
open Go.RowKit Oc

set_option maxRecDepth 100000 in
set_option maxHeartbeats 8000000 in
theorem back_no (s : Scr) (t : Int) (p : Spt) (w : World) (h : s.ok = false) :
    Calls Try.prog 6 #[s.val, .int .i64 t, p.val] w fun e w' => e = .returned (.bool true) ∧ Below w.heap.size w w' := by
  have hc := check_calls s
  rw [Scr.code_no h] at hc
  have HC := Lib.hid hc; clear hc h
  unfold Scr.val Scr.vals Spt.val at *
  go_enter Try.func6, Try.ntmps6
  go_wp2_with fail
  generalize hW : (w.alloc (.cells #[.int .i64 s.lines, .int .i64 s.columns, .int .i64 s.top, .int .i64 s.rows, .int .i64 s.left, .int .i64 s.wide, .int .i64 s.pulse] 40 (0, 0))).alloc (.cells #[.int .i64 p.frame, .int .i64 p.line, .int .i64 p.col] 67 (0, 0)) = v0
  have B0 : Hid (v0.heap[w.heap.size]? = some (.cells #[.int .i64 s.lines, .int .i64 s.columns, .int .i64 s.top, .int .i64 s.rows, .int .i64 s.left, .int .i64 s.wide, .int .i64 s.pulse] 40 (0, 0))) := by rw [← hW]; exact Kit.blk2a _ _ _
  have B1 : Hid (v0.heap[w.heap.size + 1]? = some (.cells #[.int .i64 p.frame, .int .i64 p.line, .int .i64 p.col] 67 (0, 0))) := by rw [← hW]; exact Kit.blk2b _ _ _
  have Z0 : Hid (Below w.heap.size w v0) := by rw [← hW]; exact Kit.below2 _ _ _
  clear hW
  refine (lives02_calls _).mono ?_; rintro e u1 ⟨rfl, hb⟩
  have B1_0 := Lib.hid (Kit.kept hb B0.out)
  have B1_1 := Lib.hid (Kit.kept hb B1.out)
  have Z1 := Lib.hid (Kit.then_ (Z0.out) hb); clear hb
  have l2_0 := Kit.lt B1_0.out
  have c2_0_0 : u1.cell? ⟨w.heap.size, 0, none⟩ = some (.int .i64 s.lines) := Kit.cell B1_0.out 0 _ rfl
  have c2_0_1 : u1.cell? ⟨w.heap.size, 1, none⟩ = some (.int .i64 s.columns) := Kit.cell B1_0.out 1 _ rfl
  have c2_0_2 : u1.cell? ⟨w.heap.size, 2, none⟩ = some (.int .i64 s.top) := Kit.cell B1_0.out 2 _ rfl
  have c2_0_3 : u1.cell? ⟨w.heap.size, 3, none⟩ = some (.int .i64 s.rows) := Kit.cell B1_0.out 3 _ rfl
  have c2_0_4 : u1.cell? ⟨w.heap.size, 4, none⟩ = some (.int .i64 s.left) := Kit.cell B1_0.out 4 _ rfl
  have c2_0_5 : u1.cell? ⟨w.heap.size, 5, none⟩ = some (.int .i64 s.wide) := Kit.cell B1_0.out 5 _ rfl
  have c2_0_6 : u1.cell? ⟨w.heap.size, 6, none⟩ = some (.int .i64 s.pulse) := Kit.cell B1_0.out 6 _ rfl
  have l2_1 := Kit.lt B1_1.out
  have z2 := (Z1.out).size
  go_wp2_with fail
  clear l2_0 c2_0_0 c2_0_1 c2_0_2 c2_0_3 c2_0_4 c2_0_5 c2_0_6 l2_1 z2
  refine (HC.out _).mono ?_; rintro e u3 ⟨rfl, hb⟩
  have B3_0 := Lib.hid (Kit.kept hb B1_0.out)
  have B3_1 := Lib.hid (Kit.kept hb B1_1.out)
  have Z3 := Lib.hid (Kit.then_ (Z1.out) hb); clear hb
  go_wp2_with fail
  go_ret
  exact ⟨rfl, Z3.out⟩

set_option maxRecDepth 100000 in
set_option maxHeartbeats 8000000 in
theorem back0 (s : Scr) (t : Int) (p : Spt) (w : World) (h : s.ok = true) (hb : s.timeB p = false) (t1 : t ≤ 9223372036854775807) :
    Calls Try.prog 6 #[s.val, .int .i64 t, p.val] w fun e w' => e = .returned (.bool true) ∧ Below w.heap.size w w' := by
  have hc := check_calls s
  rw [Scr.code_yes h] at hc
  have HC := Lib.hid hc; clear hc
  have HBY := Lib.hid fun w => bytes_calls s w h
  have hre := read_encs s h
  have hfi := s.fits h
  have hby : ∀ b ∈ encs s.nums, 0 ≤ b ∧ b < 256 := encs_byte _ (by obtain ⟨a1, a2, b1, b2, _, r1, r2, _, w1, w2, _, f1, f2, p1, p2, t1, t2, tr, lw, _, _, _⟩ := hfi; intro x hx; simp [Scr.nums] at hx; omega)
  have hln : (encs s.nums).length ≤ 100 := by
      obtain ⟨a1, a2, b1, b2, _, r1, r2, _, w1, w2, _, f1, f2, p1, p2, t1, t2, tr, lw, _, _, _⟩ := hfi
      have n1 := enc_len s.lines (by omega); have n2 := enc_len s.columns (by omega); have n3 := enc_len s.top (by omega); have n4 := enc_len s.rows (by omega); have n5 := enc_len s.left (by omega); have n6 := enc_len s.wide (by omega); have n7 := enc_len s.pulse (by omega)
      simp only [encs, Scr.nums, List.length_append, List.length_nil]; omega
  generalize encs s.nums = L at *
  have hrv := readVal_yes hre.2
  rw [hre.1] at hrv
  have HRV := Lib.hid hrv; have HL := Lib.hid hby; clear hrv hby hre hfi
  have HH := Lib.hid h; clear h
  have HT := Lib.hid (time_calls_no s p hb); clear hb
  unfold Scr.val Scr.vals Spt.val at *
  go_enter Try.func6, Try.ntmps6
  go_wp2_with fail
  generalize hW : (w.alloc (.cells #[.int .i64 s.lines, .int .i64 s.columns, .int .i64 s.top, .int .i64 s.rows, .int .i64 s.left, .int .i64 s.wide, .int .i64 s.pulse] 40 (0, 0))).alloc (.cells #[.int .i64 p.frame, .int .i64 p.line, .int .i64 p.col] 67 (0, 0)) = v0
  have B0 : Hid (v0.heap[w.heap.size]? = some (.cells #[.int .i64 s.lines, .int .i64 s.columns, .int .i64 s.top, .int .i64 s.rows, .int .i64 s.left, .int .i64 s.wide, .int .i64 s.pulse] 40 (0, 0))) := by rw [← hW]; exact Kit.blk2a _ _ _
  have B1 : Hid (v0.heap[w.heap.size + 1]? = some (.cells #[.int .i64 p.frame, .int .i64 p.line, .int .i64 p.col] 67 (0, 0))) := by rw [← hW]; exact Kit.blk2b _ _ _
  have Z0 : Hid (Below w.heap.size w v0) := by rw [← hW]; exact Kit.below2 _ _ _
  clear hW
  refine (lives02_calls _).mono ?_; rintro e u1 ⟨rfl, hb⟩
  have B1_0 := Lib.hid (Kit.kept hb B0.out)
  have B1_1 := Lib.hid (Kit.kept hb B1.out)
  have Z1 := Lib.hid (Kit.then_ (Z0.out) hb); clear hb
  have l2_0 := Kit.lt B1_0.out
  have c2_0_0 : u1.cell? ⟨w.heap.size, 0, none⟩ = some (.int .i64 s.lines) := Kit.cell B1_0.out 0 _ rfl
  have c2_0_1 : u1.cell? ⟨w.heap.size, 1, none⟩ = some (.int .i64 s.columns) := Kit.cell B1_0.out 1 _ rfl
  have c2_0_2 : u1.cell? ⟨w.heap.size, 2, none⟩ = some (.int .i64 s.top) := Kit.cell B1_0.out 2 _ rfl
  have c2_0_3 : u1.cell? ⟨w.heap.size, 3, none⟩ = some (.int .i64 s.rows) := Kit.cell B1_0.out 3 _ rfl
  have c2_0_4 : u1.cell? ⟨w.heap.size, 4, none⟩ = some (.int .i64 s.left) := Kit.cell B1_0.out 4 _ rfl
  have c2_0_5 : u1.cell? ⟨w.heap.size, 5, none⟩ = some (.int .i64 s.wide) := Kit.cell B1_0.out 5 _ rfl
  have c2_0_6 : u1.cell? ⟨w.heap.size, 6, none⟩ = some (.int .i64 s.pulse) := Kit.cell B1_0.out 6 _ rfl
  have l2_1 := Kit.lt B1_1.out
  have z2 := (Z1.out).size
  go_wp2_with fail
  clear l2_0 c2_0_0 c2_0_1 c2_0_2 c2_0_3 c2_0_4 c2_0_5 c2_0_6 l2_1 z2
  refine (HC.out _).mono ?_; rintro e u3 ⟨rfl, hb⟩
  have B3_0 := Lib.hid (Kit.kept hb B1_0.out)
  have B3_1 := Lib.hid (Kit.kept hb B1_1.out)
  have Z3 := Lib.hid (Kit.then_ (Z1.out) hb); clear hb
  have l4_0 := Kit.lt B3_0.out
  have c4_0_0 : u3.cell? ⟨w.heap.size, 0, none⟩ = some (.int .i64 s.lines) := Kit.cell B3_0.out 0 _ rfl
  have c4_0_1 : u3.cell? ⟨w.heap.size, 1, none⟩ = some (.int .i64 s.columns) := Kit.cell B3_0.out 1 _ rfl
  have c4_0_2 : u3.cell? ⟨w.heap.size, 2, none⟩ = some (.int .i64 s.top) := Kit.cell B3_0.out 2 _ rfl
  have c4_0_3 : u3.cell? ⟨w.heap.size, 3, none⟩ = some (.int .i64 s.rows) := Kit.cell B3_0.out 3 _ rfl
  have c4_0_4 : u3.cell? ⟨w.heap.size, 4, none⟩ = some (.int .i64 s.left) := Kit.cell B3_0.out 4 _ rfl
  have c4_0_5 : u3.cell? ⟨w.heap.size, 5, none⟩ = some (.int .i64 s.wide) := Kit.cell B3_0.out 5 _ rfl
  have c4_0_6 : u3.cell? ⟨w.heap.size, 6, none⟩ = some (.int .i64 s.pulse) := Kit.cell B3_0.out 6 _ rfl
  have l4_1 := Kit.lt B3_1.out
  have z4 := (Z3.out).size
  go_wp2_with fail
  clear l4_0 c4_0_0 c4_0_1 c4_0_2 c4_0_3 c4_0_4 c4_0_5 c4_0_6 l4_1 z4
  refine (HBY.out _).mono ?_; rintro e u5 ⟨v1, rfl, hown, hb⟩
  obtain ⟨A1, c1, rfl, hc1, hba⟩ := BytesAt.of_own hown
  have HBA := Lib.hid hba; clear hba hown
  have B5_0 := Lib.hid (Kit.kept hb B3_0.out)
  have B5_1 := Lib.hid (Kit.kept hb B3_1.out)
  have Z5 := Lib.hid (Kit.then_ (Z3.out) hb); clear hb
  go_wp2_with fail
  refine (read_calls A1 _ c1 L _ HBA.out (by omega) HL.out).mono ?_; rintro e u6 ⟨rfl, hb⟩
  have B6_0 := Lib.hid (Kit.kept hb B5_0.out)
  have B6_1 := Lib.hid (Kit.kept hb B5_1.out)
  have Z6 := Lib.hid (Kit.then_ (Z5.out) hb); clear hb
  clear HBA
  rw [HRV.out]
  have l7_0 := Kit.lt B6_0.out
  have c7_0_0 : u6.cell? ⟨w.heap.size, 0, none⟩ = some (.int .i64 s.lines) := Kit.cell B6_0.out 0 _ rfl
  have c7_0_1 : u6.cell? ⟨w.heap.size, 1, none⟩ = some (.int .i64 s.columns) := Kit.cell B6_0.out 1 _ rfl
  have c7_0_2 : u6.cell? ⟨w.heap.size, 2, none⟩ = some (.int .i64 s.top) := Kit.cell B6_0.out 2 _ rfl
  have c7_0_3 : u6.cell? ⟨w.heap.size, 3, none⟩ = some (.int .i64 s.rows) := Kit.cell B6_0.out 3 _ rfl
  have c7_0_4 : u6.cell? ⟨w.heap.size, 4, none⟩ = some (.int .i64 s.left) := Kit.cell B6_0.out 4 _ rfl
  have c7_0_5 : u6.cell? ⟨w.heap.size, 5, none⟩ = some (.int .i64 s.wide) := Kit.cell B6_0.out 5 _ rfl
  have c7_0_6 : u6.cell? ⟨w.heap.size, 6, none⟩ = some (.int .i64 s.pulse) := Kit.cell B6_0.out 6 _ rfl
  have l7_1 := Kit.lt B6_1.out
  have c7_1_0 : u6.cell? ⟨(w.heap.size + 1), 0, none⟩ = some (.int .i64 p.frame) := Kit.cell B6_1.out 0 _ rfl
  have c7_1_1 : u6.cell? ⟨(w.heap.size + 1), 1, none⟩ = some (.int .i64 p.line) := Kit.cell B6_1.out 1 _ rfl
  have c7_1_2 : u6.cell? ⟨(w.heap.size + 1), 2, none⟩ = some (.int .i64 p.col) := Kit.cell B6_1.out 2 _ rfl
  have z7 := (Z6.out).size
  have er := eqScr_rfl s.lines s.columns s.top s.rows s.left s.wide s.pulse
  go_wp2_with fail
  clear l7_0 c7_0_0 c7_0_1 c7_0_2 c7_0_3 c7_0_4 c7_0_5 c7_0_6 l7_1 c7_1_0 c7_1_1 c7_1_2 z7 er
  generalize hW : World.alloc u6 (.cells #[.int .i64 s.lines, .int .i64 s.columns, .int .i64 s.top, .int .i64 s.rows, .int .i64 s.left, .int .i64 s.wide, .int .i64 s.pulse] 40 (0, 0)) = u8
  have B8_0 : Hid (u8.heap[w.heap.size]? = some (.cells #[.int .i64 s.lines, .int .i64 s.columns, .int .i64 s.top, .int .i64 s.rows, .int .i64 s.left, .int .i64 s.wide, .int .i64 s.pulse] 40 (0, 0))) := by rw [← hW]; exact Kit.blk_old B6_0.out _
  have B8_1 : Hid (u8.heap[(w.heap.size + 1)]? = some (.cells #[.int .i64 p.frame, .int .i64 p.line, .int .i64 p.col] 67 (0, 0))) := by rw [← hW]; exact Kit.blk_old B6_1.out _
  have B8_n : Hid (u8.heap[u6.heap.size]? = some (.cells #[.int .i64 s.lines, .int .i64 s.columns, .int .i64 s.top, .int .i64 s.rows, .int .i64 s.left, .int .i64 s.wide, .int .i64 s.pulse] 40 (0, 0))) := by rw [← hW]; exact Kit.blk1 _ _
  have Z8 : Hid (Below w.heap.size w u8) := by rw [← hW]; exact (Z6.out).alloc (Z6.out).size _
  clear hW
  have yR := (Z6.out).size
  have m8_0 := Kit.lt B6_0.out
  have m8_1 := Kit.lt B6_1.out
  generalize u6.heap.size = R at *
  refine (HT.out _).mono ?_; rintro e u9 ⟨rfl, hb⟩
  have B9_0 := Lib.hid (Kit.kept hb B8_0.out)
  have B9_1 := Lib.hid (Kit.kept hb B8_1.out)
  have B9_2 := Lib.hid (Kit.kept hb B8_n.out)
  have Z9 := Lib.hid (Kit.then_ (Z8.out) hb); clear hb
  by_cases t0 : 0 ≤ t
  · by_cases t2 : 1099511627776 ≤ t
    · have dt0 : decide (t < 0) = false := decide_eq_false (by omega)
      have dt2 : decide (1099511627776 ≤ t) = true := decide_eq_true t2
      have l10_0 := Kit.lt B9_0.out
      have c10_0_0 : u9.cell? ⟨w.heap.size, 0, none⟩ = some (.int .i64 s.lines) := Kit.cell B9_0.out 0 _ rfl
      have c10_0_1 : u9.cell? ⟨w.heap.size, 1, none⟩ = some (.int .i64 s.columns) := Kit.cell B9_0.out 1 _ rfl
      have c10_0_2 : u9.cell? ⟨w.heap.size, 2, none⟩ = some (.int .i64 s.top) := Kit.cell B9_0.out 2 _ rfl
      have c10_0_3 : u9.cell? ⟨w.heap.size, 3, none⟩ = some (.int .i64 s.rows) := Kit.cell B9_0.out 3 _ rfl
      have c10_0_4 : u9.cell? ⟨w.heap.size, 4, none⟩ = some (.int .i64 s.left) := Kit.cell B9_0.out 4 _ rfl
      have c10_0_5 : u9.cell? ⟨w.heap.size, 5, none⟩ = some (.int .i64 s.wide) := Kit.cell B9_0.out 5 _ rfl
      have c10_0_6 : u9.cell? ⟨w.heap.size, 6, none⟩ = some (.int .i64 s.pulse) := Kit.cell B9_0.out 6 _ rfl
      have l10_1 := Kit.lt B9_1.out
      have c10_1_0 : u9.cell? ⟨(w.heap.size + 1), 0, none⟩ = some (.int .i64 p.frame) := Kit.cell B9_1.out 0 _ rfl
      have c10_1_1 : u9.cell? ⟨(w.heap.size + 1), 1, none⟩ = some (.int .i64 p.line) := Kit.cell B9_1.out 1 _ rfl
      have c10_1_2 : u9.cell? ⟨(w.heap.size + 1), 2, none⟩ = some (.int .i64 p.col) := Kit.cell B9_1.out 2 _ rfl
      have l10_2 := Kit.lt B9_2.out
      have z10 := (Z9.out).size
      go_wp2_with fail
      go_ret
      exact ⟨rfl, Z9.out⟩
    · have dt0 : decide (t < 0) = false := decide_eq_false (by omega)
      have dt2 : decide (1099511627776 ≤ t) = false := decide_eq_false t2
      have hS1 := fun w => spot_yes s t HH.out t0 (by omega) w
      have hS2 := fun w => spot_yes s (t + 1) HH.out (by omega) (by omega) w
      have hT2 := fun w => time_calls_yes s (s.spot t) (s.time_spot HH.out t t0 (by omega)) w
      rw [s.at_spot HH.out t] at hT2
      obtain ⟨q0, q1, q2, q3, q4, q5⟩ := s.spot_in HH.out t t0
      have hfi := s.fits HH.out
      have sl := hfi.l2; have sc := hfi.c2; clear hfi
      have hn : ((s.spot t).col + 1 ≠ s.columns → s.spot (t + 1) = ⟨(s.spot t).frame, (s.spot t).line, (s.spot t).col + 1⟩) ∧ ((s.spot t).col + 1 = s.columns → (s.spot t).line + 1 ≠ s.lines → s.spot (t + 1) = ⟨(s.spot t).frame, (s.spot t).line + 1, 0⟩) ∧ ((s.spot t).col + 1 = s.columns → (s.spot t).line + 1 = s.lines → s.spot (t + 1) = ⟨(s.spot t).frame + 1, 0, 0⟩) := ⟨s.next1 HH.out t t0, s.next2 HH.out t t0, s.next3 HH.out t t0⟩
      generalize s.spot (t + 1) = N at *
      generalize s.spot t = M at *
      obtain ⟨fr, li, co⟩ := M
      simp only [Spt.val] at *
      have dl : (li == s.lines) = false := beq_eq_false_iff_ne.2 (by omega)
      have HS1 := Lib.hid hS1; have HT2 := Lib.hid hT2; clear hS1 hT2
      by_cases e1 : co + 1 ≠ s.columns
      · have hN : N = ⟨fr, li, co + 1⟩ := hn.1 e1
        subst hN
        have HS2 := Lib.hid hS2; clear hS2 hn
        have d1 : (co + 1 == s.columns) = false := beq_eq_false_iff_ne.2 e1
        clear e1
        have l10_0 := Kit.lt B9_0.out
        have c10_0_0 : u9.cell? ⟨w.heap.size, 0, none⟩ = some (.int .i64 s.lines) := Kit.cell B9_0.out 0 _ rfl
        have c10_0_1 : u9.cell? ⟨w.heap.size, 1, none⟩ = some (.int .i64 s.columns) := Kit.cell B9_0.out 1 _ rfl
        have c10_0_2 : u9.cell? ⟨w.heap.size, 2, none⟩ = some (.int .i64 s.top) := Kit.cell B9_0.out 2 _ rfl
        have c10_0_3 : u9.cell? ⟨w.heap.size, 3, none⟩ = some (.int .i64 s.rows) := Kit.cell B9_0.out 3 _ rfl
        have c10_0_4 : u9.cell? ⟨w.heap.size, 4, none⟩ = some (.int .i64 s.left) := Kit.cell B9_0.out 4 _ rfl
        have c10_0_5 : u9.cell? ⟨w.heap.size, 5, none⟩ = some (.int .i64 s.wide) := Kit.cell B9_0.out 5 _ rfl
        have c10_0_6 : u9.cell? ⟨w.heap.size, 6, none⟩ = some (.int .i64 s.pulse) := Kit.cell B9_0.out 6 _ rfl
        have l10_1 := Kit.lt B9_1.out
        have c10_1_0 : u9.cell? ⟨(w.heap.size + 1), 0, none⟩ = some (.int .i64 p.frame) := Kit.cell B9_1.out 0 _ rfl
        have c10_1_1 : u9.cell? ⟨(w.heap.size + 1), 1, none⟩ = some (.int .i64 p.line) := Kit.cell B9_1.out 1 _ rfl
        have c10_1_2 : u9.cell? ⟨(w.heap.size + 1), 2, none⟩ = some (.int .i64 p.col) := Kit.cell B9_1.out 2 _ rfl
        have l10_2 := Kit.lt B9_2.out
        have z10 := (Z9.out).size
        go_wp2_with fail
        clear l10_0 c10_0_0 c10_0_1 c10_0_2 c10_0_3 c10_0_4 c10_0_5 c10_0_6 l10_1 c10_1_0 c10_1_1 c10_1_2 l10_2 z10
        refine (HS1.out _).mono ?_; rintro e u11 ⟨rfl, hb⟩
        have B11_0 := Lib.hid (Kit.kept hb B9_0.out)
        have B11_1 := Lib.hid (Kit.kept hb B9_1.out)
        have B11_2 := Lib.hid (Kit.kept hb B9_2.out)
        have Z11 := Lib.hid (Kit.then_ (Z9.out) hb); clear hb
        have l12_0 := Kit.lt B11_0.out
        have c12_0_0 : u11.cell? ⟨w.heap.size, 0, none⟩ = some (.int .i64 s.lines) := Kit.cell B11_0.out 0 _ rfl
        have c12_0_1 : u11.cell? ⟨w.heap.size, 1, none⟩ = some (.int .i64 s.columns) := Kit.cell B11_0.out 1 _ rfl
        have c12_0_2 : u11.cell? ⟨w.heap.size, 2, none⟩ = some (.int .i64 s.top) := Kit.cell B11_0.out 2 _ rfl
        have c12_0_3 : u11.cell? ⟨w.heap.size, 3, none⟩ = some (.int .i64 s.rows) := Kit.cell B11_0.out 3 _ rfl
        have c12_0_4 : u11.cell? ⟨w.heap.size, 4, none⟩ = some (.int .i64 s.left) := Kit.cell B11_0.out 4 _ rfl
        have c12_0_5 : u11.cell? ⟨w.heap.size, 5, none⟩ = some (.int .i64 s.wide) := Kit.cell B11_0.out 5 _ rfl
        have c12_0_6 : u11.cell? ⟨w.heap.size, 6, none⟩ = some (.int .i64 s.pulse) := Kit.cell B11_0.out 6 _ rfl
        have l12_1 := Kit.lt B11_1.out
        have l12_2 := Kit.lt B11_2.out
        have z12 := (Z11.out).size
        go_wp2_with fail
        clear l12_0 c12_0_0 c12_0_1 c12_0_2 c12_0_3 c12_0_4 c12_0_5 c12_0_6 l12_1 l12_2 z12
        generalize hW : World.alloc u11 (.cells #[.int .i64 fr, .int .i64 li, .int .i64 co] 67 (0, 0)) = u13
        have B13_0 : Hid (u13.heap[w.heap.size]? = some (.cells #[.int .i64 s.lines, .int .i64 s.columns, .int .i64 s.top, .int .i64 s.rows, .int .i64 s.left, .int .i64 s.wide, .int .i64 s.pulse] 40 (0, 0))) := by rw [← hW]; exact Kit.blk_old B11_0.out _
        have B13_1 : Hid (u13.heap[(w.heap.size + 1)]? = some (.cells #[.int .i64 p.frame, .int .i64 p.line, .int .i64 p.col] 67 (0, 0))) := by rw [← hW]; exact Kit.blk_old B11_1.out _
        have B13_2 : Hid (u13.heap[R]? = some (.cells #[.int .i64 s.lines, .int .i64 s.columns, .int .i64 s.top, .int .i64 s.rows, .int .i64 s.left, .int .i64 s.wide, .int .i64 s.pulse] 40 (0, 0))) := by rw [← hW]; exact Kit.blk_old B11_2.out _
        have B13_n : Hid (u13.heap[u11.heap.size]? = some (.cells #[.int .i64 fr, .int .i64 li, .int .i64 co] 67 (0, 0))) := by rw [← hW]; exact Kit.blk1 _ _
        have Z13 : Hid (Below w.heap.size w u13) := by rw [← hW]; exact (Z11.out).alloc (Z11.out).size _
        clear hW
        have yV := (Z11.out).size
        have m13_0 := Kit.lt B11_0.out
        have m13_1 := Kit.lt B11_1.out
        have m13_2 := Kit.lt B11_2.out
        generalize u11.heap.size = V at *
        refine (HT2.out _).mono ?_; rintro e u14 ⟨rfl, hb⟩
        have B14_0 := Lib.hid (Kit.kept hb B13_0.out)
        have B14_1 := Lib.hid (Kit.kept hb B13_1.out)
        have B14_2 := Lib.hid (Kit.kept hb B13_2.out)
        have B14_3 := Lib.hid (Kit.kept hb B13_n.out)
        have Z14 := Lib.hid (Kit.then_ (Z13.out) hb); clear hb
        have l15_0 := Kit.lt B14_0.out
        have c15_0_0 : u14.cell? ⟨w.heap.size, 0, none⟩ = some (.int .i64 s.lines) := Kit.cell B14_0.out 0 _ rfl
        have c15_0_1 : u14.cell? ⟨w.heap.size, 1, none⟩ = some (.int .i64 s.columns) := Kit.cell B14_0.out 1 _ rfl
        have c15_0_2 : u14.cell? ⟨w.heap.size, 2, none⟩ = some (.int .i64 s.top) := Kit.cell B14_0.out 2 _ rfl
        have c15_0_3 : u14.cell? ⟨w.heap.size, 3, none⟩ = some (.int .i64 s.rows) := Kit.cell B14_0.out 3 _ rfl
        have c15_0_4 : u14.cell? ⟨w.heap.size, 4, none⟩ = some (.int .i64 s.left) := Kit.cell B14_0.out 4 _ rfl
        have c15_0_5 : u14.cell? ⟨w.heap.size, 5, none⟩ = some (.int .i64 s.wide) := Kit.cell B14_0.out 5 _ rfl
        have c15_0_6 : u14.cell? ⟨w.heap.size, 6, none⟩ = some (.int .i64 s.pulse) := Kit.cell B14_0.out 6 _ rfl
        have l15_1 := Kit.lt B14_1.out
        have l15_2 := Kit.lt B14_2.out
        have l15_3 := Kit.lt B14_3.out
        have z15 := (Z14.out).size
        go_wp2_with fail
        clear l15_0 c15_0_0 c15_0_1 c15_0_2 c15_0_3 c15_0_4 c15_0_5 c15_0_6 l15_1 l15_2 l15_3 z15
        refine (HS2.out _).mono ?_; rintro e u16 ⟨rfl, hb⟩
        have B16_0 := Lib.hid (Kit.kept hb B14_0.out)
        have B16_1 := Lib.hid (Kit.kept hb B14_1.out)
        have B16_2 := Lib.hid (Kit.kept hb B14_2.out)
        have B16_3 := Lib.hid (Kit.kept hb B14_3.out)
        have Z16 := Lib.hid (Kit.then_ (Z14.out) hb); clear hb
        have l17_0 := Kit.lt B16_0.out
        have c17_0_0 : u16.cell? ⟨w.heap.size, 0, none⟩ = some (.int .i64 s.lines) := Kit.cell B16_0.out 0 _ rfl
        have c17_0_1 : u16.cell? ⟨w.heap.size, 1, none⟩ = some (.int .i64 s.columns) := Kit.cell B16_0.out 1 _ rfl
        have c17_0_2 : u16.cell? ⟨w.heap.size, 2, none⟩ = some (.int .i64 s.top) := Kit.cell B16_0.out 2 _ rfl
        have c17_0_3 : u16.cell? ⟨w.heap.size, 3, none⟩ = some (.int .i64 s.rows) := Kit.cell B16_0.out 3 _ rfl
        have c17_0_4 : u16.cell? ⟨w.heap.size, 4, none⟩ = some (.int .i64 s.left) := Kit.cell B16_0.out 4 _ rfl
        have c17_0_5 : u16.cell? ⟨w.heap.size, 5, none⟩ = some (.int .i64 s.wide) := Kit.cell B16_0.out 5 _ rfl
        have c17_0_6 : u16.cell? ⟨w.heap.size, 6, none⟩ = some (.int .i64 s.pulse) := Kit.cell B16_0.out 6 _ rfl
        have l17_1 := Kit.lt B16_1.out
        have l17_2 := Kit.lt B16_2.out
        have l17_3 := Kit.lt B16_3.out
        have c17_3_0 : u16.cell? ⟨V, 0, none⟩ = some (.int .i64 fr) := Kit.cell B16_3.out 0 _ rfl
        have f17_3_0 := Kit.frz B16_3.out 0
        have c17_3_1 : u16.cell? ⟨V, 1, none⟩ = some (.int .i64 li) := Kit.cell B16_3.out 1 _ rfl
        have f17_3_1 := Kit.frz B16_3.out 1
        have c17_3_2 : u16.cell? ⟨V, 2, none⟩ = some (.int .i64 co) := Kit.cell B16_3.out 2 _ rfl
        have f17_3_2 := Kit.frz B16_3.out 2
        have z17 := (Z16.out).size
        go_upto_region 21 with fail
        clear l17_0 c17_0_0 c17_0_1 c17_0_2 c17_0_3 c17_0_4 c17_0_5 c17_0_6 l17_1 l17_2 l17_3 c17_3_0 f17_3_0 c17_3_1 f17_3_1 c17_3_2 f17_3_2 z17
        generalize hW : World.alloc u16 (.cells #[.int .i64 fr, .int .i64 li, .int .i64 (co + 1)] 67 (0, 0)) = u18
        have B18_0 : Hid (u18.heap[w.heap.size]? = some (.cells #[.int .i64 s.lines, .int .i64 s.columns, .int .i64 s.top, .int .i64 s.rows, .int .i64 s.left, .int .i64 s.wide, .int .i64 s.pulse] 40 (0, 0))) := by rw [← hW]; exact Kit.blk_old B16_0.out _
        have B18_1 : Hid (u18.heap[(w.heap.size + 1)]? = some (.cells #[.int .i64 p.frame, .int .i64 p.line, .int .i64 p.col] 67 (0, 0))) := by rw [← hW]; exact Kit.blk_old B16_1.out _
        have B18_2 : Hid (u18.heap[R]? = some (.cells #[.int .i64 s.lines, .int .i64 s.columns, .int .i64 s.top, .int .i64 s.rows, .int .i64 s.left, .int .i64 s.wide, .int .i64 s.pulse] 40 (0, 0))) := by rw [← hW]; exact Kit.blk_old B16_2.out _
        have B18_3 : Hid (u18.heap[V]? = some (.cells #[.int .i64 fr, .int .i64 li, .int .i64 co] 67 (0, 0))) := by rw [← hW]; exact Kit.blk_old B16_3.out _
        have B18_n : Hid (u18.heap[u16.heap.size]? = some (.cells #[.int .i64 fr, .int .i64 li, .int .i64 (co + 1)] 67 (0, 0))) := by rw [← hW]; exact Kit.blk1 _ _
        have Z18 : Hid (Below w.heap.size w u18) := by rw [← hW]; exact (Z16.out).alloc (Z16.out).size _
        clear hW
        have yU := (Z16.out).size
        have m18_0 := Kit.lt B16_0.out
        have m18_1 := Kit.lt B16_1.out
        have m18_2 := Kit.lt B16_2.out
        have m18_3 := Kit.lt B16_3.out
        generalize u16.heap.size = U at *
        have l19_0 := Kit.lt B18_0.out
        have c19_0_0 : u18.cell? ⟨w.heap.size, 0, none⟩ = some (.int .i64 s.lines) := Kit.cell B18_0.out 0 _ rfl
        have c19_0_1 : u18.cell? ⟨w.heap.size, 1, none⟩ = some (.int .i64 s.columns) := Kit.cell B18_0.out 1 _ rfl
        have c19_0_2 : u18.cell? ⟨w.heap.size, 2, none⟩ = some (.int .i64 s.top) := Kit.cell B18_0.out 2 _ rfl
        have c19_0_3 : u18.cell? ⟨w.heap.size, 3, none⟩ = some (.int .i64 s.rows) := Kit.cell B18_0.out 3 _ rfl
        have c19_0_4 : u18.cell? ⟨w.heap.size, 4, none⟩ = some (.int .i64 s.left) := Kit.cell B18_0.out 4 _ rfl
        have c19_0_5 : u18.cell? ⟨w.heap.size, 5, none⟩ = some (.int .i64 s.wide) := Kit.cell B18_0.out 5 _ rfl
        have c19_0_6 : u18.cell? ⟨w.heap.size, 6, none⟩ = some (.int .i64 s.pulse) := Kit.cell B18_0.out 6 _ rfl
        have l19_1 := Kit.lt B18_1.out
        have l19_2 := Kit.lt B18_2.out
        have l19_3 := Kit.lt B18_3.out
        have c19_3_0 : u18.cell? ⟨V, 0, none⟩ = some (.int .i64 fr) := Kit.cell B18_3.out 0 _ rfl
        have f19_3_0 := Kit.frz B18_3.out 0
        have c19_3_1 : u18.cell? ⟨V, 1, none⟩ = some (.int .i64 li) := Kit.cell B18_3.out 1 _ rfl
        have f19_3_1 := Kit.frz B18_3.out 1
        have c19_3_2 : u18.cell? ⟨V, 2, none⟩ = some (.int .i64 co) := Kit.cell B18_3.out 2 _ rfl
        have f19_3_2 := Kit.frz B18_3.out 2
        have l19_4 := Kit.lt B18_n.out
        have c19_4_0 : u18.cell? ⟨U, 0, none⟩ = some (.int .i64 fr) := Kit.cell B18_n.out 0 _ rfl
        have c19_4_1 : u18.cell? ⟨U, 1, none⟩ = some (.int .i64 li) := Kit.cell B18_n.out 1 _ rfl
        have c19_4_2 : u18.cell? ⟨U, 2, none⟩ = some (.int .i64 (co + 1)) := Kit.cell B18_n.out 2 _ rfl
        have z19 := (Z18.out).size
        have nv : U ≠ V := by omega
        have er := eqSpt_rfl (fr) (li) (co + 1)
        go_upto_region 22 with fail
        clear l19_0 c19_0_0 c19_0_1 c19_0_2 c19_0_3 c19_0_4 c19_0_5 c19_0_6 l19_1 l19_2 l19_3 c19_3_0 f19_3_0 c19_3_1 f19_3_1 c19_3_2 f19_3_2 l19_4 c19_4_0 c19_4_1 c19_4_2 z19 nv er
        generalize hW : (World.setCell u18 ⟨V, 2, none⟩ (.int .i64 (co + 1))) = u20
        have B20_0 : Hid (u20.heap[w.heap.size]? = some (.cells #[.int .i64 s.lines, .int .i64 s.columns, .int .i64 s.top, .int .i64 s.rows, .int .i64 s.left, .int .i64 s.wide, .int .i64 s.pulse] 40 (0, 0))) := by rw [← hW]; exact (Kit.set_far B18_0.out _ (by simp only; omega) _)
        have B20_1 : Hid (u20.heap[(w.heap.size + 1)]? = some (.cells #[.int .i64 p.frame, .int .i64 p.line, .int .i64 p.col] 67 (0, 0))) := by rw [← hW]; exact (Kit.set_far B18_1.out _ (by simp only; omega) _)
        have B20_2 : Hid (u20.heap[R]? = some (.cells #[.int .i64 s.lines, .int .i64 s.columns, .int .i64 s.top, .int .i64 s.rows, .int .i64 s.left, .int .i64 s.wide, .int .i64 s.pulse] 40 (0, 0))) := by rw [← hW]; exact (Kit.set_far B18_2.out _ (by simp only; omega) _)
        have B20_3 : Hid (u20.heap[V]? = some (.cells #[.int .i64 fr, .int .i64 li, .int .i64 (co + 1)] 67 (0, 0))) := by rw [← hW]; exact (Kit.set_ B18_3.out 2 _ rfl)
        have B20_4 : Hid (u20.heap[U]? = some (.cells #[.int .i64 fr, .int .i64 li, .int .i64 (co + 1)] 67 (0, 0))) := by rw [← hW]; exact (Kit.set_far B18_n.out _ (by simp only; omega) _)
        have Z20 : Hid (Below w.heap.size w u20) := by rw [← hW]; exact ((Z18.out).setCell (by simp only; omega) _)
        clear hW
        have l21_0 := Kit.lt B20_0.out
        have c21_0_0 : u20.cell? ⟨w.heap.size, 0, none⟩ = some (.int .i64 s.lines) := Kit.cell B20_0.out 0 _ rfl
        have c21_0_1 : u20.cell? ⟨w.heap.size, 1, none⟩ = some (.int .i64 s.columns) := Kit.cell B20_0.out 1 _ rfl
        have c21_0_2 : u20.cell? ⟨w.heap.size, 2, none⟩ = some (.int .i64 s.top) := Kit.cell B20_0.out 2 _ rfl
        have c21_0_3 : u20.cell? ⟨w.heap.size, 3, none⟩ = some (.int .i64 s.rows) := Kit.cell B20_0.out 3 _ rfl
        have c21_0_4 : u20.cell? ⟨w.heap.size, 4, none⟩ = some (.int .i64 s.left) := Kit.cell B20_0.out 4 _ rfl
        have c21_0_5 : u20.cell? ⟨w.heap.size, 5, none⟩ = some (.int .i64 s.wide) := Kit.cell B20_0.out 5 _ rfl
        have c21_0_6 : u20.cell? ⟨w.heap.size, 6, none⟩ = some (.int .i64 s.pulse) := Kit.cell B20_0.out 6 _ rfl
        have l21_1 := Kit.lt B20_1.out
        have l21_2 := Kit.lt B20_2.out
        have l21_3 := Kit.lt B20_3.out
        have c21_3_0 : u20.cell? ⟨V, 0, none⟩ = some (.int .i64 fr) := Kit.cell B20_3.out 0 _ rfl
        have f21_3_0 := Kit.frz B20_3.out 0
        have c21_3_1 : u20.cell? ⟨V, 1, none⟩ = some (.int .i64 li) := Kit.cell B20_3.out 1 _ rfl
        have f21_3_1 := Kit.frz B20_3.out 1
        have c21_3_2 : u20.cell? ⟨V, 2, none⟩ = some (.int .i64 (co + 1)) := Kit.cell B20_3.out 2 _ rfl
        have f21_3_2 := Kit.frz B20_3.out 2
        have l21_4 := Kit.lt B20_4.out
        have c21_4_0 : u20.cell? ⟨U, 0, none⟩ = some (.int .i64 fr) := Kit.cell B20_4.out 0 _ rfl
        have c21_4_1 : u20.cell? ⟨U, 1, none⟩ = some (.int .i64 li) := Kit.cell B20_4.out 1 _ rfl
        have c21_4_2 : u20.cell? ⟨U, 2, none⟩ = some (.int .i64 (co + 1)) := Kit.cell B20_4.out 2 _ rfl
        have z21 := (Z20.out).size
        have nv : U ≠ V := by omega
        have er := eqSpt_rfl (fr) (li) (co + 1)
        go_wp2_with fail
        go_ret
        exact ⟨rfl, Z20.out⟩
      · have e1 : co + 1 = s.columns := by omega
        by_cases e2 : li + 1 ≠ s.lines
        · have hN : N = ⟨fr, li + 1, 0⟩ := hn.2.1 e1 e2
          subst hN
          have HS2 := Lib.hid hS2; clear hS2 hn
          have d1 : (co + 1 == s.columns) = true := beq_iff_eq.2 e1
          have d2 : (li + 1 == s.lines) = false := beq_eq_false_iff_ne.2 e2
          clear e1 e2
          have l10_0 := Kit.lt B9_0.out
          have c10_0_0 : u9.cell? ⟨w.heap.size, 0, none⟩ = some (.int .i64 s.lines) := Kit.cell B9_0.out 0 _ rfl
          have c10_0_1 : u9.cell? ⟨w.heap.size, 1, none⟩ = some (.int .i64 s.columns) := Kit.cell B9_0.out 1 _ rfl
          have c10_0_2 : u9.cell? ⟨w.heap.size, 2, none⟩ = some (.int .i64 s.top) := Kit.cell B9_0.out 2 _ rfl
          have c10_0_3 : u9.cell? ⟨w.heap.size, 3, none⟩ = some (.int .i64 s.rows) := Kit.cell B9_0.out 3 _ rfl
          have c10_0_4 : u9.cell? ⟨w.heap.size, 4, none⟩ = some (.int .i64 s.left) := Kit.cell B9_0.out 4 _ rfl
          have c10_0_5 : u9.cell? ⟨w.heap.size, 5, none⟩ = some (.int .i64 s.wide) := Kit.cell B9_0.out 5 _ rfl
          have c10_0_6 : u9.cell? ⟨w.heap.size, 6, none⟩ = some (.int .i64 s.pulse) := Kit.cell B9_0.out 6 _ rfl
          have l10_1 := Kit.lt B9_1.out
          have c10_1_0 : u9.cell? ⟨(w.heap.size + 1), 0, none⟩ = some (.int .i64 p.frame) := Kit.cell B9_1.out 0 _ rfl
          have c10_1_1 : u9.cell? ⟨(w.heap.size + 1), 1, none⟩ = some (.int .i64 p.line) := Kit.cell B9_1.out 1 _ rfl
          have c10_1_2 : u9.cell? ⟨(w.heap.size + 1), 2, none⟩ = some (.int .i64 p.col) := Kit.cell B9_1.out 2 _ rfl
          have l10_2 := Kit.lt B9_2.out
          have z10 := (Z9.out).size
          go_wp2_with fail
          clear l10_0 c10_0_0 c10_0_1 c10_0_2 c10_0_3 c10_0_4 c10_0_5 c10_0_6 l10_1 c10_1_0 c10_1_1 c10_1_2 l10_2 z10
          refine (HS1.out _).mono ?_; rintro e u11 ⟨rfl, hb⟩
          have B11_0 := Lib.hid (Kit.kept hb B9_0.out)
          have B11_1 := Lib.hid (Kit.kept hb B9_1.out)
          have B11_2 := Lib.hid (Kit.kept hb B9_2.out)
          have Z11 := Lib.hid (Kit.then_ (Z9.out) hb); clear hb
          have l12_0 := Kit.lt B11_0.out
          have c12_0_0 : u11.cell? ⟨w.heap.size, 0, none⟩ = some (.int .i64 s.lines) := Kit.cell B11_0.out 0 _ rfl
          have c12_0_1 : u11.cell? ⟨w.heap.size, 1, none⟩ = some (.int .i64 s.columns) := Kit.cell B11_0.out 1 _ rfl
          have c12_0_2 : u11.cell? ⟨w.heap.size, 2, none⟩ = some (.int .i64 s.top) := Kit.cell B11_0.out 2 _ rfl
          have c12_0_3 : u11.cell? ⟨w.heap.size, 3, none⟩ = some (.int .i64 s.rows) := Kit.cell B11_0.out 3 _ rfl
          have c12_0_4 : u11.cell? ⟨w.heap.size, 4, none⟩ = some (.int .i64 s.left) := Kit.cell B11_0.out 4 _ rfl
          have c12_0_5 : u11.cell? ⟨w.heap.size, 5, none⟩ = some (.int .i64 s.wide) := Kit.cell B11_0.out 5 _ rfl
          have c12_0_6 : u11.cell? ⟨w.heap.size, 6, none⟩ = some (.int .i64 s.pulse) := Kit.cell B11_0.out 6 _ rfl
          have l12_1 := Kit.lt B11_1.out
          have l12_2 := Kit.lt B11_2.out
          have z12 := (Z11.out).size
          go_wp2_with fail
          clear l12_0 c12_0_0 c12_0_1 c12_0_2 c12_0_3 c12_0_4 c12_0_5 c12_0_6 l12_1 l12_2 z12
          generalize hW : World.alloc u11 (.cells #[.int .i64 fr, .int .i64 li, .int .i64 co] 67 (0, 0)) = u13
          have B13_0 : Hid (u13.heap[w.heap.size]? = some (.cells #[.int .i64 s.lines, .int .i64 s.columns, .int .i64 s.top, .int .i64 s.rows, .int .i64 s.left, .int .i64 s.wide, .int .i64 s.pulse] 40 (0, 0))) := by rw [← hW]; exact Kit.blk_old B11_0.out _
          have B13_1 : Hid (u13.heap[(w.heap.size + 1)]? = some (.cells #[.int .i64 p.frame, .int .i64 p.line, .int .i64 p.col] 67 (0, 0))) := by rw [← hW]; exact Kit.blk_old B11_1.out _
          have B13_2 : Hid (u13.heap[R]? = some (.cells #[.int .i64 s.lines, .int .i64 s.columns, .int .i64 s.top, .int .i64 s.rows, .int .i64 s.left, .int .i64 s.wide, .int .i64 s.pulse] 40 (0, 0))) := by rw [← hW]; exact Kit.blk_old B11_2.out _
          have B13_n : Hid (u13.heap[u11.heap.size]? = some (.cells #[.int .i64 fr, .int .i64 li, .int .i64 co] 67 (0, 0))) := by rw [← hW]; exact Kit.blk1 _ _
          have Z13 : Hid (Below w.heap.size w u13) := by rw [← hW]; exact (Z11.out).alloc (Z11.out).size _
          clear hW
          have yV := (Z11.out).size
          have m13_0 := Kit.lt B11_0.out
          have m13_1 := Kit.lt B11_1.out
          have m13_2 := Kit.lt B11_2.out
          generalize u11.heap.size = V at *
          refine (HT2.out _).mono ?_; rintro e u14 ⟨rfl, hb⟩
          have B14_0 := Lib.hid (Kit.kept hb B13_0.out)
          have B14_1 := Lib.hid (Kit.kept hb B13_1.out)
          have B14_2 := Lib.hid (Kit.kept hb B13_2.out)
          have B14_3 := Lib.hid (Kit.kept hb B13_n.out)
          have Z14 := Lib.hid (Kit.then_ (Z13.out) hb); clear hb
          have l15_0 := Kit.lt B14_0.out
          have c15_0_0 : u14.cell? ⟨w.heap.size, 0, none⟩ = some (.int .i64 s.lines) := Kit.cell B14_0.out 0 _ rfl
          have c15_0_1 : u14.cell? ⟨w.heap.size, 1, none⟩ = some (.int .i64 s.columns) := Kit.cell B14_0.out 1 _ rfl
          have c15_0_2 : u14.cell? ⟨w.heap.size, 2, none⟩ = some (.int .i64 s.top) := Kit.cell B14_0.out 2 _ rfl
          have c15_0_3 : u14.cell? ⟨w.heap.size, 3, none⟩ = some (.int .i64 s.rows) := Kit.cell B14_0.out 3 _ rfl
          have c15_0_4 : u14.cell? ⟨w.heap.size, 4, none⟩ = some (.int .i64 s.left) := Kit.cell B14_0.out 4 _ rfl
          have c15_0_5 : u14.cell? ⟨w.heap.size, 5, none⟩ = some (.int .i64 s.wide) := Kit.cell B14_0.out 5 _ rfl
          have c15_0_6 : u14.cell? ⟨w.heap.size, 6, none⟩ = some (.int .i64 s.pulse) := Kit.cell B14_0.out 6 _ rfl
          have l15_1 := Kit.lt B14_1.out
          have l15_2 := Kit.lt B14_2.out
          have l15_3 := Kit.lt B14_3.out
          have z15 := (Z14.out).size
          go_wp2_with fail
          clear l15_0 c15_0_0 c15_0_1 c15_0_2 c15_0_3 c15_0_4 c15_0_5 c15_0_6 l15_1 l15_2 l15_3 z15
          refine (HS2.out _).mono ?_; rintro e u16 ⟨rfl, hb⟩
          have B16_0 := Lib.hid (Kit.kept hb B14_0.out)
          have B16_1 := Lib.hid (Kit.kept hb B14_1.out)
          have B16_2 := Lib.hid (Kit.kept hb B14_2.out)
          have B16_3 := Lib.hid (Kit.kept hb B14_3.out)
          have Z16 := Lib.hid (Kit.then_ (Z14.out) hb); clear hb
          have l17_0 := Kit.lt B16_0.out
          have c17_0_0 : u16.cell? ⟨w.heap.size, 0, none⟩ = some (.int .i64 s.lines) := Kit.cell B16_0.out 0 _ rfl
          have c17_0_1 : u16.cell? ⟨w.heap.size, 1, none⟩ = some (.int .i64 s.columns) := Kit.cell B16_0.out 1 _ rfl
          have c17_0_2 : u16.cell? ⟨w.heap.size, 2, none⟩ = some (.int .i64 s.top) := Kit.cell B16_0.out 2 _ rfl
          have c17_0_3 : u16.cell? ⟨w.heap.size, 3, none⟩ = some (.int .i64 s.rows) := Kit.cell B16_0.out 3 _ rfl
          have c17_0_4 : u16.cell? ⟨w.heap.size, 4, none⟩ = some (.int .i64 s.left) := Kit.cell B16_0.out 4 _ rfl
          have c17_0_5 : u16.cell? ⟨w.heap.size, 5, none⟩ = some (.int .i64 s.wide) := Kit.cell B16_0.out 5 _ rfl
          have c17_0_6 : u16.cell? ⟨w.heap.size, 6, none⟩ = some (.int .i64 s.pulse) := Kit.cell B16_0.out 6 _ rfl
          have l17_1 := Kit.lt B16_1.out
          have l17_2 := Kit.lt B16_2.out
          have l17_3 := Kit.lt B16_3.out
          have c17_3_0 : u16.cell? ⟨V, 0, none⟩ = some (.int .i64 fr) := Kit.cell B16_3.out 0 _ rfl
          have f17_3_0 := Kit.frz B16_3.out 0
          have c17_3_1 : u16.cell? ⟨V, 1, none⟩ = some (.int .i64 li) := Kit.cell B16_3.out 1 _ rfl
          have f17_3_1 := Kit.frz B16_3.out 1
          have c17_3_2 : u16.cell? ⟨V, 2, none⟩ = some (.int .i64 co) := Kit.cell B16_3.out 2 _ rfl
          have f17_3_2 := Kit.frz B16_3.out 2
          have z17 := (Z16.out).size
          go_upto_region 21 with fail
          clear l17_0 c17_0_0 c17_0_1 c17_0_2 c17_0_3 c17_0_4 c17_0_5 c17_0_6 l17_1 l17_2 l17_3 c17_3_0 f17_3_0 c17_3_1 f17_3_1 c17_3_2 f17_3_2 z17
          generalize hW : World.alloc u16 (.cells #[.int .i64 fr, .int .i64 (li + 1), .int .i64 0] 67 (0, 0)) = u18
          have B18_0 : Hid (u18.heap[w.heap.size]? = some (.cells #[.int .i64 s.lines, .int .i64 s.columns, .int .i64 s.top, .int .i64 s.rows, .int .i64 s.left, .int .i64 s.wide, .int .i64 s.pulse] 40 (0, 0))) := by rw [← hW]; exact Kit.blk_old B16_0.out _
          have B18_1 : Hid (u18.heap[(w.heap.size + 1)]? = some (.cells #[.int .i64 p.frame, .int .i64 p.line, .int .i64 p.col] 67 (0, 0))) := by rw [← hW]; exact Kit.blk_old B16_1.out _
          have B18_2 : Hid (u18.heap[R]? = some (.cells #[.int .i64 s.lines, .int .i64 s.columns, .int .i64 s.top, .int .i64 s.rows, .int .i64 s.left, .int .i64 s.wide, .int .i64 s.pulse] 40 (0, 0))) := by rw [← hW]; exact Kit.blk_old B16_2.out _
          have B18_3 : Hid (u18.heap[V]? = some (.cells #[.int .i64 fr, .int .i64 li, .int .i64 co] 67 (0, 0))) := by rw [← hW]; exact Kit.blk_old B16_3.out _
          have B18_n : Hid (u18.heap[u16.heap.size]? = some (.cells #[.int .i64 fr, .int .i64 (li + 1), .int .i64 0] 67 (0, 0))) := by rw [← hW]; exact Kit.blk1 _ _
          have Z18 : Hid (Below w.heap.size w u18) := by rw [← hW]; exact (Z16.out).alloc (Z16.out).size _
          clear hW
          have yU := (Z16.out).size
          have m18_0 := Kit.lt B16_0.out
          have m18_1 := Kit.lt B16_1.out
          have m18_2 := Kit.lt B16_2.out
          have m18_3 := Kit.lt B16_3.out
          generalize u16.heap.size = U at *
          have l19_0 := Kit.lt B18_0.out
          have c19_0_0 : u18.cell? ⟨w.heap.size, 0, none⟩ = some (.int .i64 s.lines) := Kit.cell B18_0.out 0 _ rfl
          have c19_0_1 : u18.cell? ⟨w.heap.size, 1, none⟩ = some (.int .i64 s.columns) := Kit.cell B18_0.out 1 _ rfl
          have c19_0_2 : u18.cell? ⟨w.heap.size, 2, none⟩ = some (.int .i64 s.top) := Kit.cell B18_0.out 2 _ rfl
          have c19_0_3 : u18.cell? ⟨w.heap.size, 3, none⟩ = some (.int .i64 s.rows) := Kit.cell B18_0.out 3 _ rfl
          have c19_0_4 : u18.cell? ⟨w.heap.size, 4, none⟩ = some (.int .i64 s.left) := Kit.cell B18_0.out 4 _ rfl
          have c19_0_5 : u18.cell? ⟨w.heap.size, 5, none⟩ = some (.int .i64 s.wide) := Kit.cell B18_0.out 5 _ rfl
          have c19_0_6 : u18.cell? ⟨w.heap.size, 6, none⟩ = some (.int .i64 s.pulse) := Kit.cell B18_0.out 6 _ rfl
          have l19_1 := Kit.lt B18_1.out
          have l19_2 := Kit.lt B18_2.out
          have l19_3 := Kit.lt B18_3.out
          have c19_3_0 : u18.cell? ⟨V, 0, none⟩ = some (.int .i64 fr) := Kit.cell B18_3.out 0 _ rfl
          have f19_3_0 := Kit.frz B18_3.out 0
          have c19_3_1 : u18.cell? ⟨V, 1, none⟩ = some (.int .i64 li) := Kit.cell B18_3.out 1 _ rfl
          have f19_3_1 := Kit.frz B18_3.out 1
          have c19_3_2 : u18.cell? ⟨V, 2, none⟩ = some (.int .i64 co) := Kit.cell B18_3.out 2 _ rfl
          have f19_3_2 := Kit.frz B18_3.out 2
          have l19_4 := Kit.lt B18_n.out
          have c19_4_0 : u18.cell? ⟨U, 0, none⟩ = some (.int .i64 fr) := Kit.cell B18_n.out 0 _ rfl
          have c19_4_1 : u18.cell? ⟨U, 1, none⟩ = some (.int .i64 (li + 1)) := Kit.cell B18_n.out 1 _ rfl
          have c19_4_2 : u18.cell? ⟨U, 2, none⟩ = some (.int .i64 0) := Kit.cell B18_n.out 2 _ rfl
          have z19 := (Z18.out).size
          have nv : U ≠ V := by omega
          have er := eqSpt_rfl (fr) (li + 1) (0)
          go_upto_region 22 with fail
          clear l19_0 c19_0_0 c19_0_1 c19_0_2 c19_0_3 c19_0_4 c19_0_5 c19_0_6 l19_1 l19_2 l19_3 c19_3_0 f19_3_0 c19_3_1 f19_3_1 c19_3_2 f19_3_2 l19_4 c19_4_0 c19_4_1 c19_4_2 z19 nv er
          generalize hW : (World.setCell u18 ⟨V, 2, none⟩ (.int .i64 (co + 1))) = u20
          have B20_0 : Hid (u20.heap[w.heap.size]? = some (.cells #[.int .i64 s.lines, .int .i64 s.columns, .int .i64 s.top, .int .i64 s.rows, .int .i64 s.left, .int .i64 s.wide, .int .i64 s.pulse] 40 (0, 0))) := by rw [← hW]; exact (Kit.set_far B18_0.out _ (by simp only; omega) _)
          have B20_1 : Hid (u20.heap[(w.heap.size + 1)]? = some (.cells #[.int .i64 p.frame, .int .i64 p.line, .int .i64 p.col] 67 (0, 0))) := by rw [← hW]; exact (Kit.set_far B18_1.out _ (by simp only; omega) _)
          have B20_2 : Hid (u20.heap[R]? = some (.cells #[.int .i64 s.lines, .int .i64 s.columns, .int .i64 s.top, .int .i64 s.rows, .int .i64 s.left, .int .i64 s.wide, .int .i64 s.pulse] 40 (0, 0))) := by rw [← hW]; exact (Kit.set_far B18_2.out _ (by simp only; omega) _)
          have B20_3 : Hid (u20.heap[V]? = some (.cells #[.int .i64 fr, .int .i64 li, .int .i64 (co + 1)] 67 (0, 0))) := by rw [← hW]; exact (Kit.set_ B18_3.out 2 _ rfl)
          have B20_4 : Hid (u20.heap[U]? = some (.cells #[.int .i64 fr, .int .i64 (li + 1), .int .i64 0] 67 (0, 0))) := by rw [← hW]; exact (Kit.set_far B18_n.out _ (by simp only; omega) _)
          have Z20 : Hid (Below w.heap.size w u20) := by rw [← hW]; exact ((Z18.out).setCell (by simp only; omega) _)
          clear hW
          have l21_0 := Kit.lt B20_0.out
          have c21_0_0 : u20.cell? ⟨w.heap.size, 0, none⟩ = some (.int .i64 s.lines) := Kit.cell B20_0.out 0 _ rfl
          have c21_0_1 : u20.cell? ⟨w.heap.size, 1, none⟩ = some (.int .i64 s.columns) := Kit.cell B20_0.out 1 _ rfl
          have c21_0_2 : u20.cell? ⟨w.heap.size, 2, none⟩ = some (.int .i64 s.top) := Kit.cell B20_0.out 2 _ rfl
          have c21_0_3 : u20.cell? ⟨w.heap.size, 3, none⟩ = some (.int .i64 s.rows) := Kit.cell B20_0.out 3 _ rfl
          have c21_0_4 : u20.cell? ⟨w.heap.size, 4, none⟩ = some (.int .i64 s.left) := Kit.cell B20_0.out 4 _ rfl
          have c21_0_5 : u20.cell? ⟨w.heap.size, 5, none⟩ = some (.int .i64 s.wide) := Kit.cell B20_0.out 5 _ rfl
          have c21_0_6 : u20.cell? ⟨w.heap.size, 6, none⟩ = some (.int .i64 s.pulse) := Kit.cell B20_0.out 6 _ rfl
          have l21_1 := Kit.lt B20_1.out
          have l21_2 := Kit.lt B20_2.out
          have l21_3 := Kit.lt B20_3.out
          have c21_3_0 : u20.cell? ⟨V, 0, none⟩ = some (.int .i64 fr) := Kit.cell B20_3.out 0 _ rfl
          have f21_3_0 := Kit.frz B20_3.out 0
          have c21_3_1 : u20.cell? ⟨V, 1, none⟩ = some (.int .i64 li) := Kit.cell B20_3.out 1 _ rfl
          have f21_3_1 := Kit.frz B20_3.out 1
          have c21_3_2 : u20.cell? ⟨V, 2, none⟩ = some (.int .i64 (co + 1)) := Kit.cell B20_3.out 2 _ rfl
          have f21_3_2 := Kit.frz B20_3.out 2
          have l21_4 := Kit.lt B20_4.out
          have c21_4_0 : u20.cell? ⟨U, 0, none⟩ = some (.int .i64 fr) := Kit.cell B20_4.out 0 _ rfl
          have c21_4_1 : u20.cell? ⟨U, 1, none⟩ = some (.int .i64 (li + 1)) := Kit.cell B20_4.out 1 _ rfl
          have c21_4_2 : u20.cell? ⟨U, 2, none⟩ = some (.int .i64 0) := Kit.cell B20_4.out 2 _ rfl
          have z21 := (Z20.out).size
          have nv : U ≠ V := by omega
          have er := eqSpt_rfl (fr) (li + 1) (0)
          go_upto_region 24 with fail
          clear l21_0 c21_0_0 c21_0_1 c21_0_2 c21_0_3 c21_0_4 c21_0_5 c21_0_6 l21_1 l21_2 l21_3 c21_3_0 f21_3_0 c21_3_1 f21_3_1 c21_3_2 f21_3_2 l21_4 c21_4_0 c21_4_1 c21_4_2 z21 nv er
          generalize hW : (World.setCell (World.setCell u20 ⟨V, 2, none⟩ (.int .i64 0)) ⟨V, 1, none⟩ (.int .i64 (li + 1))) = u22
          have B22_0 : Hid (u22.heap[w.heap.size]? = some (.cells #[.int .i64 s.lines, .int .i64 s.columns, .int .i64 s.top, .int .i64 s.rows, .int .i64 s.left, .int .i64 s.wide, .int .i64 s.pulse] 40 (0, 0))) := by rw [← hW]; exact (Kit.set_far (Kit.set_far B20_0.out _ (by simp only; omega) _) _ (by simp only; omega) _)
          have B22_1 : Hid (u22.heap[(w.heap.size + 1)]? = some (.cells #[.int .i64 p.frame, .int .i64 p.line, .int .i64 p.col] 67 (0, 0))) := by rw [← hW]; exact (Kit.set_far (Kit.set_far B20_1.out _ (by simp only; omega) _) _ (by simp only; omega) _)
          have B22_2 : Hid (u22.heap[R]? = some (.cells #[.int .i64 s.lines, .int .i64 s.columns, .int .i64 s.top, .int .i64 s.rows, .int .i64 s.left, .int .i64 s.wide, .int .i64 s.pulse] 40 (0, 0))) := by rw [← hW]; exact (Kit.set_far (Kit.set_far B20_2.out _ (by simp only; omega) _) _ (by simp only; omega) _)
          have B22_3 : Hid (u22.heap[V]? = some (.cells #[.int .i64 fr, .int .i64 (li + 1), .int .i64 0] 67 (0, 0))) := by rw [← hW]; exact (Kit.set_ (Kit.set_ B20_3.out 2 _ rfl) 1 _ rfl)
          have B22_4 : Hid (u22.heap[U]? = some (.cells #[.int .i64 fr, .int .i64 (li + 1), .int .i64 0] 67 (0, 0))) := by rw [← hW]; exact (Kit.set_far (Kit.set_far B20_4.out _ (by simp only; omega) _) _ (by simp only; omega) _)
          have Z22 : Hid (Below w.heap.size w u22) := by rw [← hW]; exact (((Z20.out).setCell (by simp only; omega) _).setCell (by simp only; omega) _)
          clear hW
          have l23_0 := Kit.lt B22_0.out
          have c23_0_0 : u22.cell? ⟨w.heap.size, 0, none⟩ = some (.int .i64 s.lines) := Kit.cell B22_0.out 0 _ rfl
          have c23_0_1 : u22.cell? ⟨w.heap.size, 1, none⟩ = some (.int .i64 s.columns) := Kit.cell B22_0.out 1 _ rfl
          have c23_0_2 : u22.cell? ⟨w.heap.size, 2, none⟩ = some (.int .i64 s.top) := Kit.cell B22_0.out 2 _ rfl
          have c23_0_3 : u22.cell? ⟨w.heap.size, 3, none⟩ = some (.int .i64 s.rows) := Kit.cell B22_0.out 3 _ rfl
          have c23_0_4 : u22.cell? ⟨w.heap.size, 4, none⟩ = some (.int .i64 s.left) := Kit.cell B22_0.out 4 _ rfl
          have c23_0_5 : u22.cell? ⟨w.heap.size, 5, none⟩ = some (.int .i64 s.wide) := Kit.cell B22_0.out 5 _ rfl
          have c23_0_6 : u22.cell? ⟨w.heap.size, 6, none⟩ = some (.int .i64 s.pulse) := Kit.cell B22_0.out 6 _ rfl
          have l23_1 := Kit.lt B22_1.out
          have l23_2 := Kit.lt B22_2.out
          have l23_3 := Kit.lt B22_3.out
          have c23_3_0 : u22.cell? ⟨V, 0, none⟩ = some (.int .i64 fr) := Kit.cell B22_3.out 0 _ rfl
          have f23_3_0 := Kit.frz B22_3.out 0
          have c23_3_1 : u22.cell? ⟨V, 1, none⟩ = some (.int .i64 (li + 1)) := Kit.cell B22_3.out 1 _ rfl
          have f23_3_1 := Kit.frz B22_3.out 1
          have c23_3_2 : u22.cell? ⟨V, 2, none⟩ = some (.int .i64 0) := Kit.cell B22_3.out 2 _ rfl
          have f23_3_2 := Kit.frz B22_3.out 2
          have l23_4 := Kit.lt B22_4.out
          have c23_4_0 : u22.cell? ⟨U, 0, none⟩ = some (.int .i64 fr) := Kit.cell B22_4.out 0 _ rfl
          have c23_4_1 : u22.cell? ⟨U, 1, none⟩ = some (.int .i64 (li + 1)) := Kit.cell B22_4.out 1 _ rfl
          have c23_4_2 : u22.cell? ⟨U, 2, none⟩ = some (.int .i64 0) := Kit.cell B22_4.out 2 _ rfl
          have z23 := (Z22.out).size
          have nv : U ≠ V := by omega
          have er := eqSpt_rfl (fr) (li + 1) (0)
          go_wp2_with fail
          go_ret
          exact ⟨rfl, Z22.out⟩
        · have e2 : li + 1 = s.lines := by omega
          have hN : N = ⟨fr + 1, 0, 0⟩ := hn.2.2 e1 e2
          subst hN
          have HS2 := Lib.hid hS2; clear hS2 hn
          have d1 : (co + 1 == s.columns) = true := beq_iff_eq.2 e1
          have d2 : (li + 1 == s.lines) = true := beq_iff_eq.2 e2
          clear e1 e2
          have l10_0 := Kit.lt B9_0.out
          have c10_0_0 : u9.cell? ⟨w.heap.size, 0, none⟩ = some (.int .i64 s.lines) := Kit.cell B9_0.out 0 _ rfl
          have c10_0_1 : u9.cell? ⟨w.heap.size, 1, none⟩ = some (.int .i64 s.columns) := Kit.cell B9_0.out 1 _ rfl
          have c10_0_2 : u9.cell? ⟨w.heap.size, 2, none⟩ = some (.int .i64 s.top) := Kit.cell B9_0.out 2 _ rfl
          have c10_0_3 : u9.cell? ⟨w.heap.size, 3, none⟩ = some (.int .i64 s.rows) := Kit.cell B9_0.out 3 _ rfl
          have c10_0_4 : u9.cell? ⟨w.heap.size, 4, none⟩ = some (.int .i64 s.left) := Kit.cell B9_0.out 4 _ rfl
          have c10_0_5 : u9.cell? ⟨w.heap.size, 5, none⟩ = some (.int .i64 s.wide) := Kit.cell B9_0.out 5 _ rfl
          have c10_0_6 : u9.cell? ⟨w.heap.size, 6, none⟩ = some (.int .i64 s.pulse) := Kit.cell B9_0.out 6 _ rfl
          have l10_1 := Kit.lt B9_1.out
          have c10_1_0 : u9.cell? ⟨(w.heap.size + 1), 0, none⟩ = some (.int .i64 p.frame) := Kit.cell B9_1.out 0 _ rfl
          have c10_1_1 : u9.cell? ⟨(w.heap.size + 1), 1, none⟩ = some (.int .i64 p.line) := Kit.cell B9_1.out 1 _ rfl
          have c10_1_2 : u9.cell? ⟨(w.heap.size + 1), 2, none⟩ = some (.int .i64 p.col) := Kit.cell B9_1.out 2 _ rfl
          have l10_2 := Kit.lt B9_2.out
          have z10 := (Z9.out).size
          go_wp2_with fail
          clear l10_0 c10_0_0 c10_0_1 c10_0_2 c10_0_3 c10_0_4 c10_0_5 c10_0_6 l10_1 c10_1_0 c10_1_1 c10_1_2 l10_2 z10
          refine (HS1.out _).mono ?_; rintro e u11 ⟨rfl, hb⟩
          have B11_0 := Lib.hid (Kit.kept hb B9_0.out)
          have B11_1 := Lib.hid (Kit.kept hb B9_1.out)
          have B11_2 := Lib.hid (Kit.kept hb B9_2.out)
          have Z11 := Lib.hid (Kit.then_ (Z9.out) hb); clear hb
          have l12_0 := Kit.lt B11_0.out
          have c12_0_0 : u11.cell? ⟨w.heap.size, 0, none⟩ = some (.int .i64 s.lines) := Kit.cell B11_0.out 0 _ rfl
          have c12_0_1 : u11.cell? ⟨w.heap.size, 1, none⟩ = some (.int .i64 s.columns) := Kit.cell B11_0.out 1 _ rfl
          have c12_0_2 : u11.cell? ⟨w.heap.size, 2, none⟩ = some (.int .i64 s.top) := Kit.cell B11_0.out 2 _ rfl
          have c12_0_3 : u11.cell? ⟨w.heap.size, 3, none⟩ = some (.int .i64 s.rows) := Kit.cell B11_0.out 3 _ rfl
          have c12_0_4 : u11.cell? ⟨w.heap.size, 4, none⟩ = some (.int .i64 s.left) := Kit.cell B11_0.out 4 _ rfl
          have c12_0_5 : u11.cell? ⟨w.heap.size, 5, none⟩ = some (.int .i64 s.wide) := Kit.cell B11_0.out 5 _ rfl
          have c12_0_6 : u11.cell? ⟨w.heap.size, 6, none⟩ = some (.int .i64 s.pulse) := Kit.cell B11_0.out 6 _ rfl
          have l12_1 := Kit.lt B11_1.out
          have l12_2 := Kit.lt B11_2.out
          have z12 := (Z11.out).size
          go_wp2_with fail
          clear l12_0 c12_0_0 c12_0_1 c12_0_2 c12_0_3 c12_0_4 c12_0_5 c12_0_6 l12_1 l12_2 z12
          generalize hW : World.alloc u11 (.cells #[.int .i64 fr, .int .i64 li, .int .i64 co] 67 (0, 0)) = u13
          have B13_0 : Hid (u13.heap[w.heap.size]? = some (.cells #[.int .i64 s.lines, .int .i64 s.columns, .int .i64 s.top, .int .i64 s.rows, .int .i64 s.left, .int .i64 s.wide, .int .i64 s.pulse] 40 (0, 0))) := by rw [← hW]; exact Kit.blk_old B11_0.out _
          have B13_1 : Hid (u13.heap[(w.heap.size + 1)]? = some (.cells #[.int .i64 p.frame, .int .i64 p.line, .int .i64 p.col] 67 (0, 0))) := by rw [← hW]; exact Kit.blk_old B11_1.out _
          have B13_2 : Hid (u13.heap[R]? = some (.cells #[.int .i64 s.lines, .int .i64 s.columns, .int .i64 s.top, .int .i64 s.rows, .int .i64 s.left, .int .i64 s.wide, .int .i64 s.pulse] 40 (0, 0))) := by rw [← hW]; exact Kit.blk_old B11_2.out _
          have B13_n : Hid (u13.heap[u11.heap.size]? = some (.cells #[.int .i64 fr, .int .i64 li, .int .i64 co] 67 (0, 0))) := by rw [← hW]; exact Kit.blk1 _ _
          have Z13 : Hid (Below w.heap.size w u13) := by rw [← hW]; exact (Z11.out).alloc (Z11.out).size _
          clear hW
          have yV := (Z11.out).size
          have m13_0 := Kit.lt B11_0.out
          have m13_1 := Kit.lt B11_1.out
          have m13_2 := Kit.lt B11_2.out
          generalize u11.heap.size = V at *
          refine (HT2.out _).mono ?_; rintro e u14 ⟨rfl, hb⟩
          have B14_0 := Lib.hid (Kit.kept hb B13_0.out)
          have B14_1 := Lib.hid (Kit.kept hb B13_1.out)
          have B14_2 := Lib.hid (Kit.kept hb B13_2.out)
          have B14_3 := Lib.hid (Kit.kept hb B13_n.out)
          have Z14 := Lib.hid (Kit.then_ (Z13.out) hb); clear hb
          have l15_0 := Kit.lt B14_0.out
          have c15_0_0 : u14.cell? ⟨w.heap.size, 0, none⟩ = some (.int .i64 s.lines) := Kit.cell B14_0.out 0 _ rfl
          have c15_0_1 : u14.cell? ⟨w.heap.size, 1, none⟩ = some (.int .i64 s.columns) := Kit.cell B14_0.out 1 _ rfl
          have c15_0_2 : u14.cell? ⟨w.heap.size, 2, none⟩ = some (.int .i64 s.top) := Kit.cell B14_0.out 2 _ rfl
          have c15_0_3 : u14.cell? ⟨w.heap.size, 3, none⟩ = some (.int .i64 s.rows) := Kit.cell B14_0.out 3 _ rfl
          have c15_0_4 : u14.cell? ⟨w.heap.size, 4, none⟩ = some (.int .i64 s.left) := Kit.cell B14_0.out 4 _ rfl
          have c15_0_5 : u14.cell? ⟨w.heap.size, 5, none⟩ = some (.int .i64 s.wide) := Kit.cell B14_0.out 5 _ rfl
          have c15_0_6 : u14.cell? ⟨w.heap.size, 6, none⟩ = some (.int .i64 s.pulse) := Kit.cell B14_0.out 6 _ rfl
          have l15_1 := Kit.lt B14_1.out
          have l15_2 := Kit.lt B14_2.out
          have l15_3 := Kit.lt B14_3.out
          have z15 := (Z14.out).size
          go_wp2_with fail
          clear l15_0 c15_0_0 c15_0_1 c15_0_2 c15_0_3 c15_0_4 c15_0_5 c15_0_6 l15_1 l15_2 l15_3 z15
          refine (HS2.out _).mono ?_; rintro e u16 ⟨rfl, hb⟩
          have B16_0 := Lib.hid (Kit.kept hb B14_0.out)
          have B16_1 := Lib.hid (Kit.kept hb B14_1.out)
          have B16_2 := Lib.hid (Kit.kept hb B14_2.out)
          have B16_3 := Lib.hid (Kit.kept hb B14_3.out)
          have Z16 := Lib.hid (Kit.then_ (Z14.out) hb); clear hb
          have l17_0 := Kit.lt B16_0.out
          have c17_0_0 : u16.cell? ⟨w.heap.size, 0, none⟩ = some (.int .i64 s.lines) := Kit.cell B16_0.out 0 _ rfl
          have c17_0_1 : u16.cell? ⟨w.heap.size, 1, none⟩ = some (.int .i64 s.columns) := Kit.cell B16_0.out 1 _ rfl
          have c17_0_2 : u16.cell? ⟨w.heap.size, 2, none⟩ = some (.int .i64 s.top) := Kit.cell B16_0.out 2 _ rfl
          have c17_0_3 : u16.cell? ⟨w.heap.size, 3, none⟩ = some (.int .i64 s.rows) := Kit.cell B16_0.out 3 _ rfl
          have c17_0_4 : u16.cell? ⟨w.heap.size, 4, none⟩ = some (.int .i64 s.left) := Kit.cell B16_0.out 4 _ rfl
          have c17_0_5 : u16.cell? ⟨w.heap.size, 5, none⟩ = some (.int .i64 s.wide) := Kit.cell B16_0.out 5 _ rfl
          have c17_0_6 : u16.cell? ⟨w.heap.size, 6, none⟩ = some (.int .i64 s.pulse) := Kit.cell B16_0.out 6 _ rfl
          have l17_1 := Kit.lt B16_1.out
          have l17_2 := Kit.lt B16_2.out
          have l17_3 := Kit.lt B16_3.out
          have c17_3_0 : u16.cell? ⟨V, 0, none⟩ = some (.int .i64 fr) := Kit.cell B16_3.out 0 _ rfl
          have f17_3_0 := Kit.frz B16_3.out 0
          have c17_3_1 : u16.cell? ⟨V, 1, none⟩ = some (.int .i64 li) := Kit.cell B16_3.out 1 _ rfl
          have f17_3_1 := Kit.frz B16_3.out 1
          have c17_3_2 : u16.cell? ⟨V, 2, none⟩ = some (.int .i64 co) := Kit.cell B16_3.out 2 _ rfl
          have f17_3_2 := Kit.frz B16_3.out 2
          have z17 := (Z16.out).size
          go_upto_region 21 with fail
          clear l17_0 c17_0_0 c17_0_1 c17_0_2 c17_0_3 c17_0_4 c17_0_5 c17_0_6 l17_1 l17_2 l17_3 c17_3_0 f17_3_0 c17_3_1 f17_3_1 c17_3_2 f17_3_2 z17
          generalize hW : World.alloc u16 (.cells #[.int .i64 (fr + 1), .int .i64 0, .int .i64 0] 67 (0, 0)) = u18
          have B18_0 : Hid (u18.heap[w.heap.size]? = some (.cells #[.int .i64 s.lines, .int .i64 s.columns, .int .i64 s.top, .int .i64 s.rows, .int .i64 s.left, .int .i64 s.wide, .int .i64 s.pulse] 40 (0, 0))) := by rw [← hW]; exact Kit.blk_old B16_0.out _
          have B18_1 : Hid (u18.heap[(w.heap.size + 1)]? = some (.cells #[.int .i64 p.frame, .int .i64 p.line, .int .i64 p.col] 67 (0, 0))) := by rw [← hW]; exact Kit.blk_old B16_1.out _
          have B18_2 : Hid (u18.heap[R]? = some (.cells #[.int .i64 s.lines, .int .i64 s.columns, .int .i64 s.top, .int .i64 s.rows, .int .i64 s.left, .int .i64 s.wide, .int .i64 s.pulse] 40 (0, 0))) := by rw [← hW]; exact Kit.blk_old B16_2.out _
          have B18_3 : Hid (u18.heap[V]? = some (.cells #[.int .i64 fr, .int .i64 li, .int .i64 co] 67 (0, 0))) := by rw [← hW]; exact Kit.blk_old B16_3.out _
          have B18_n : Hid (u18.heap[u16.heap.size]? = some (.cells #[.int .i64 (fr + 1), .int .i64 0, .int .i64 0] 67 (0, 0))) := by rw [← hW]; exact Kit.blk1 _ _
          have Z18 : Hid (Below w.heap.size w u18) := by rw [← hW]; exact (Z16.out).alloc (Z16.out).size _
          clear hW
          have yU := (Z16.out).size
          have m18_0 := Kit.lt B16_0.out
          have m18_1 := Kit.lt B16_1.out
          have m18_2 := Kit.lt B16_2.out
          have m18_3 := Kit.lt B16_3.out
          generalize u16.heap.size = U at *
          have l19_0 := Kit.lt B18_0.out
          have c19_0_0 : u18.cell? ⟨w.heap.size, 0, none⟩ = some (.int .i64 s.lines) := Kit.cell B18_0.out 0 _ rfl
          have c19_0_1 : u18.cell? ⟨w.heap.size, 1, none⟩ = some (.int .i64 s.columns) := Kit.cell B18_0.out 1 _ rfl
          have c19_0_2 : u18.cell? ⟨w.heap.size, 2, none⟩ = some (.int .i64 s.top) := Kit.cell B18_0.out 2 _ rfl
          have c19_0_3 : u18.cell? ⟨w.heap.size, 3, none⟩ = some (.int .i64 s.rows) := Kit.cell B18_0.out 3 _ rfl
          have c19_0_4 : u18.cell? ⟨w.heap.size, 4, none⟩ = some (.int .i64 s.left) := Kit.cell B18_0.out 4 _ rfl
          have c19_0_5 : u18.cell? ⟨w.heap.size, 5, none⟩ = some (.int .i64 s.wide) := Kit.cell B18_0.out 5 _ rfl
          have c19_0_6 : u18.cell? ⟨w.heap.size, 6, none⟩ = some (.int .i64 s.pulse) := Kit.cell B18_0.out 6 _ rfl
          have l19_1 := Kit.lt B18_1.out
          have l19_2 := Kit.lt B18_2.out
          have l19_3 := Kit.lt B18_3.out
          have c19_3_0 : u18.cell? ⟨V, 0, none⟩ = some (.int .i64 fr) := Kit.cell B18_3.out 0 _ rfl
          have f19_3_0 := Kit.frz B18_3.out 0
          have c19_3_1 : u18.cell? ⟨V, 1, none⟩ = some (.int .i64 li) := Kit.cell B18_3.out 1 _ rfl
          have f19_3_1 := Kit.frz B18_3.out 1
          have c19_3_2 : u18.cell? ⟨V, 2, none⟩ = some (.int .i64 co) := Kit.cell B18_3.out 2 _ rfl
          have f19_3_2 := Kit.frz B18_3.out 2
          have l19_4 := Kit.lt B18_n.out
          have c19_4_0 : u18.cell? ⟨U, 0, none⟩ = some (.int .i64 (fr + 1)) := Kit.cell B18_n.out 0 _ rfl
          have c19_4_1 : u18.cell? ⟨U, 1, none⟩ = some (.int .i64 0) := Kit.cell B18_n.out 1 _ rfl
          have c19_4_2 : u18.cell? ⟨U, 2, none⟩ = some (.int .i64 0) := Kit.cell B18_n.out 2 _ rfl
          have z19 := (Z18.out).size
          have nv : U ≠ V := by omega
          have er := eqSpt_rfl (fr + 1) (0) (0)
          go_upto_region 22 with fail
          clear l19_0 c19_0_0 c19_0_1 c19_0_2 c19_0_3 c19_0_4 c19_0_5 c19_0_6 l19_1 l19_2 l19_3 c19_3_0 f19_3_0 c19_3_1 f19_3_1 c19_3_2 f19_3_2 l19_4 c19_4_0 c19_4_1 c19_4_2 z19 nv er
          generalize hW : (World.setCell u18 ⟨V, 2, none⟩ (.int .i64 (co + 1))) = u20
          have B20_0 : Hid (u20.heap[w.heap.size]? = some (.cells #[.int .i64 s.lines, .int .i64 s.columns, .int .i64 s.top, .int .i64 s.rows, .int .i64 s.left, .int .i64 s.wide, .int .i64 s.pulse] 40 (0, 0))) := by rw [← hW]; exact (Kit.set_far B18_0.out _ (by simp only; omega) _)
          have B20_1 : Hid (u20.heap[(w.heap.size + 1)]? = some (.cells #[.int .i64 p.frame, .int .i64 p.line, .int .i64 p.col] 67 (0, 0))) := by rw [← hW]; exact (Kit.set_far B18_1.out _ (by simp only; omega) _)
          have B20_2 : Hid (u20.heap[R]? = some (.cells #[.int .i64 s.lines, .int .i64 s.columns, .int .i64 s.top, .int .i64 s.rows, .int .i64 s.left, .int .i64 s.wide, .int .i64 s.pulse] 40 (0, 0))) := by rw [← hW]; exact (Kit.set_far B18_2.out _ (by simp only; omega) _)
          have B20_3 : Hid (u20.heap[V]? = some (.cells #[.int .i64 fr, .int .i64 li, .int .i64 (co + 1)] 67 (0, 0))) := by rw [← hW]; exact (Kit.set_ B18_3.out 2 _ rfl)
          have B20_4 : Hid (u20.heap[U]? = some (.cells #[.int .i64 (fr + 1), .int .i64 0, .int .i64 0] 67 (0, 0))) := by rw [← hW]; exact (Kit.set_far B18_n.out _ (by simp only; omega) _)
          have Z20 : Hid (Below w.heap.size w u20) := by rw [← hW]; exact ((Z18.out).setCell (by simp only; omega) _)
          clear hW
          have l21_0 := Kit.lt B20_0.out
          have c21_0_0 : u20.cell? ⟨w.heap.size, 0, none⟩ = some (.int .i64 s.lines) := Kit.cell B20_0.out 0 _ rfl
          have c21_0_1 : u20.cell? ⟨w.heap.size, 1, none⟩ = some (.int .i64 s.columns) := Kit.cell B20_0.out 1 _ rfl
          have c21_0_2 : u20.cell? ⟨w.heap.size, 2, none⟩ = some (.int .i64 s.top) := Kit.cell B20_0.out 2 _ rfl
          have c21_0_3 : u20.cell? ⟨w.heap.size, 3, none⟩ = some (.int .i64 s.rows) := Kit.cell B20_0.out 3 _ rfl
          have c21_0_4 : u20.cell? ⟨w.heap.size, 4, none⟩ = some (.int .i64 s.left) := Kit.cell B20_0.out 4 _ rfl
          have c21_0_5 : u20.cell? ⟨w.heap.size, 5, none⟩ = some (.int .i64 s.wide) := Kit.cell B20_0.out 5 _ rfl
          have c21_0_6 : u20.cell? ⟨w.heap.size, 6, none⟩ = some (.int .i64 s.pulse) := Kit.cell B20_0.out 6 _ rfl
          have l21_1 := Kit.lt B20_1.out
          have l21_2 := Kit.lt B20_2.out
          have l21_3 := Kit.lt B20_3.out
          have c21_3_0 : u20.cell? ⟨V, 0, none⟩ = some (.int .i64 fr) := Kit.cell B20_3.out 0 _ rfl
          have f21_3_0 := Kit.frz B20_3.out 0
          have c21_3_1 : u20.cell? ⟨V, 1, none⟩ = some (.int .i64 li) := Kit.cell B20_3.out 1 _ rfl
          have f21_3_1 := Kit.frz B20_3.out 1
          have c21_3_2 : u20.cell? ⟨V, 2, none⟩ = some (.int .i64 (co + 1)) := Kit.cell B20_3.out 2 _ rfl
          have f21_3_2 := Kit.frz B20_3.out 2
          have l21_4 := Kit.lt B20_4.out
          have c21_4_0 : u20.cell? ⟨U, 0, none⟩ = some (.int .i64 (fr + 1)) := Kit.cell B20_4.out 0 _ rfl
          have c21_4_1 : u20.cell? ⟨U, 1, none⟩ = some (.int .i64 0) := Kit.cell B20_4.out 1 _ rfl
          have c21_4_2 : u20.cell? ⟨U, 2, none⟩ = some (.int .i64 0) := Kit.cell B20_4.out 2 _ rfl
          have z21 := (Z20.out).size
          have nv : U ≠ V := by omega
          have er := eqSpt_rfl (fr + 1) (0) (0)
          go_upto_region 24 with fail
          clear l21_0 c21_0_0 c21_0_1 c21_0_2 c21_0_3 c21_0_4 c21_0_5 c21_0_6 l21_1 l21_2 l21_3 c21_3_0 f21_3_0 c21_3_1 f21_3_1 c21_3_2 f21_3_2 l21_4 c21_4_0 c21_4_1 c21_4_2 z21 nv er
          generalize hW : (World.setCell (World.setCell u20 ⟨V, 2, none⟩ (.int .i64 0)) ⟨V, 1, none⟩ (.int .i64 (li + 1))) = u22
          have B22_0 : Hid (u22.heap[w.heap.size]? = some (.cells #[.int .i64 s.lines, .int .i64 s.columns, .int .i64 s.top, .int .i64 s.rows, .int .i64 s.left, .int .i64 s.wide, .int .i64 s.pulse] 40 (0, 0))) := by rw [← hW]; exact (Kit.set_far (Kit.set_far B20_0.out _ (by simp only; omega) _) _ (by simp only; omega) _)
          have B22_1 : Hid (u22.heap[(w.heap.size + 1)]? = some (.cells #[.int .i64 p.frame, .int .i64 p.line, .int .i64 p.col] 67 (0, 0))) := by rw [← hW]; exact (Kit.set_far (Kit.set_far B20_1.out _ (by simp only; omega) _) _ (by simp only; omega) _)
          have B22_2 : Hid (u22.heap[R]? = some (.cells #[.int .i64 s.lines, .int .i64 s.columns, .int .i64 s.top, .int .i64 s.rows, .int .i64 s.left, .int .i64 s.wide, .int .i64 s.pulse] 40 (0, 0))) := by rw [← hW]; exact (Kit.set_far (Kit.set_far B20_2.out _ (by simp only; omega) _) _ (by simp only; omega) _)
          have B22_3 : Hid (u22.heap[V]? = some (.cells #[.int .i64 fr, .int .i64 (li + 1), .int .i64 0] 67 (0, 0))) := by rw [← hW]; exact (Kit.set_ (Kit.set_ B20_3.out 2 _ rfl) 1 _ rfl)
          have B22_4 : Hid (u22.heap[U]? = some (.cells #[.int .i64 (fr + 1), .int .i64 0, .int .i64 0] 67 (0, 0))) := by rw [← hW]; exact (Kit.set_far (Kit.set_far B20_4.out _ (by simp only; omega) _) _ (by simp only; omega) _)
          have Z22 : Hid (Below w.heap.size w u22) := by rw [← hW]; exact (((Z20.out).setCell (by simp only; omega) _).setCell (by simp only; omega) _)
          clear hW
          have l23_0 := Kit.lt B22_0.out
          have c23_0_0 : u22.cell? ⟨w.heap.size, 0, none⟩ = some (.int .i64 s.lines) := Kit.cell B22_0.out 0 _ rfl
          have c23_0_1 : u22.cell? ⟨w.heap.size, 1, none⟩ = some (.int .i64 s.columns) := Kit.cell B22_0.out 1 _ rfl
          have c23_0_2 : u22.cell? ⟨w.heap.size, 2, none⟩ = some (.int .i64 s.top) := Kit.cell B22_0.out 2 _ rfl
          have c23_0_3 : u22.cell? ⟨w.heap.size, 3, none⟩ = some (.int .i64 s.rows) := Kit.cell B22_0.out 3 _ rfl
          have c23_0_4 : u22.cell? ⟨w.heap.size, 4, none⟩ = some (.int .i64 s.left) := Kit.cell B22_0.out 4 _ rfl
          have c23_0_5 : u22.cell? ⟨w.heap.size, 5, none⟩ = some (.int .i64 s.wide) := Kit.cell B22_0.out 5 _ rfl
          have c23_0_6 : u22.cell? ⟨w.heap.size, 6, none⟩ = some (.int .i64 s.pulse) := Kit.cell B22_0.out 6 _ rfl
          have l23_1 := Kit.lt B22_1.out
          have l23_2 := Kit.lt B22_2.out
          have l23_3 := Kit.lt B22_3.out
          have c23_3_0 : u22.cell? ⟨V, 0, none⟩ = some (.int .i64 fr) := Kit.cell B22_3.out 0 _ rfl
          have f23_3_0 := Kit.frz B22_3.out 0
          have c23_3_1 : u22.cell? ⟨V, 1, none⟩ = some (.int .i64 (li + 1)) := Kit.cell B22_3.out 1 _ rfl
          have f23_3_1 := Kit.frz B22_3.out 1
          have c23_3_2 : u22.cell? ⟨V, 2, none⟩ = some (.int .i64 0) := Kit.cell B22_3.out 2 _ rfl
          have f23_3_2 := Kit.frz B22_3.out 2
          have l23_4 := Kit.lt B22_4.out
          have c23_4_0 : u22.cell? ⟨U, 0, none⟩ = some (.int .i64 (fr + 1)) := Kit.cell B22_4.out 0 _ rfl
          have c23_4_1 : u22.cell? ⟨U, 1, none⟩ = some (.int .i64 0) := Kit.cell B22_4.out 1 _ rfl
          have c23_4_2 : u22.cell? ⟨U, 2, none⟩ = some (.int .i64 0) := Kit.cell B22_4.out 2 _ rfl
          have z23 := (Z22.out).size
          have nv : U ≠ V := by omega
          have er := eqSpt_rfl (fr + 1) (0) (0)
          go_upto_region 26 with fail
          clear l23_0 c23_0_0 c23_0_1 c23_0_2 c23_0_3 c23_0_4 c23_0_5 c23_0_6 l23_1 l23_2 l23_3 c23_3_0 f23_3_0 c23_3_1 f23_3_1 c23_3_2 f23_3_2 l23_4 c23_4_0 c23_4_1 c23_4_2 z23 nv er
          generalize hW : (World.setCell (World.setCell u22 ⟨V, 1, none⟩ (.int .i64 0)) ⟨V, 0, none⟩ (.int .i64 (fr + 1))) = u24
          have B24_0 : Hid (u24.heap[w.heap.size]? = some (.cells #[.int .i64 s.lines, .int .i64 s.columns, .int .i64 s.top, .int .i64 s.rows, .int .i64 s.left, .int .i64 s.wide, .int .i64 s.pulse] 40 (0, 0))) := by rw [← hW]; exact (Kit.set_far (Kit.set_far B22_0.out _ (by simp only; omega) _) _ (by simp only; omega) _)
          have B24_1 : Hid (u24.heap[(w.heap.size + 1)]? = some (.cells #[.int .i64 p.frame, .int .i64 p.line, .int .i64 p.col] 67 (0, 0))) := by rw [← hW]; exact (Kit.set_far (Kit.set_far B22_1.out _ (by simp only; omega) _) _ (by simp only; omega) _)
          have B24_2 : Hid (u24.heap[R]? = some (.cells #[.int .i64 s.lines, .int .i64 s.columns, .int .i64 s.top, .int .i64 s.rows, .int .i64 s.left, .int .i64 s.wide, .int .i64 s.pulse] 40 (0, 0))) := by rw [← hW]; exact (Kit.set_far (Kit.set_far B22_2.out _ (by simp only; omega) _) _ (by simp only; omega) _)
          have B24_3 : Hid (u24.heap[V]? = some (.cells #[.int .i64 (fr + 1), .int .i64 0, .int .i64 0] 67 (0, 0))) := by rw [← hW]; exact (Kit.set_ (Kit.set_ B22_3.out 1 _ rfl) 0 _ rfl)
          have B24_4 : Hid (u24.heap[U]? = some (.cells #[.int .i64 (fr + 1), .int .i64 0, .int .i64 0] 67 (0, 0))) := by rw [← hW]; exact (Kit.set_far (Kit.set_far B22_4.out _ (by simp only; omega) _) _ (by simp only; omega) _)
          have Z24 : Hid (Below w.heap.size w u24) := by rw [← hW]; exact (((Z22.out).setCell (by simp only; omega) _).setCell (by simp only; omega) _)
          clear hW
          have l25_0 := Kit.lt B24_0.out
          have c25_0_0 : u24.cell? ⟨w.heap.size, 0, none⟩ = some (.int .i64 s.lines) := Kit.cell B24_0.out 0 _ rfl
          have c25_0_1 : u24.cell? ⟨w.heap.size, 1, none⟩ = some (.int .i64 s.columns) := Kit.cell B24_0.out 1 _ rfl
          have c25_0_2 : u24.cell? ⟨w.heap.size, 2, none⟩ = some (.int .i64 s.top) := Kit.cell B24_0.out 2 _ rfl
          have c25_0_3 : u24.cell? ⟨w.heap.size, 3, none⟩ = some (.int .i64 s.rows) := Kit.cell B24_0.out 3 _ rfl
          have c25_0_4 : u24.cell? ⟨w.heap.size, 4, none⟩ = some (.int .i64 s.left) := Kit.cell B24_0.out 4 _ rfl
          have c25_0_5 : u24.cell? ⟨w.heap.size, 5, none⟩ = some (.int .i64 s.wide) := Kit.cell B24_0.out 5 _ rfl
          have c25_0_6 : u24.cell? ⟨w.heap.size, 6, none⟩ = some (.int .i64 s.pulse) := Kit.cell B24_0.out 6 _ rfl
          have l25_1 := Kit.lt B24_1.out
          have l25_2 := Kit.lt B24_2.out
          have l25_3 := Kit.lt B24_3.out
          have c25_3_0 : u24.cell? ⟨V, 0, none⟩ = some (.int .i64 (fr + 1)) := Kit.cell B24_3.out 0 _ rfl
          have f25_3_0 := Kit.frz B24_3.out 0
          have c25_3_1 : u24.cell? ⟨V, 1, none⟩ = some (.int .i64 0) := Kit.cell B24_3.out 1 _ rfl
          have f25_3_1 := Kit.frz B24_3.out 1
          have c25_3_2 : u24.cell? ⟨V, 2, none⟩ = some (.int .i64 0) := Kit.cell B24_3.out 2 _ rfl
          have f25_3_2 := Kit.frz B24_3.out 2
          have l25_4 := Kit.lt B24_4.out
          have c25_4_0 : u24.cell? ⟨U, 0, none⟩ = some (.int .i64 (fr + 1)) := Kit.cell B24_4.out 0 _ rfl
          have c25_4_1 : u24.cell? ⟨U, 1, none⟩ = some (.int .i64 0) := Kit.cell B24_4.out 1 _ rfl
          have c25_4_2 : u24.cell? ⟨U, 2, none⟩ = some (.int .i64 0) := Kit.cell B24_4.out 2 _ rfl
          have z25 := (Z24.out).size
          have nv : U ≠ V := by omega
          have er := eqSpt_rfl (fr + 1) (0) (0)
          go_wp2_with fail
          go_ret
          exact ⟨rfl, Z24.out⟩
  · have dt0 : decide (t < 0) = true := decide_eq_true (by omega)
    have l10_0 := Kit.lt B9_0.out
    have c10_0_0 : u9.cell? ⟨w.heap.size, 0, none⟩ = some (.int .i64 s.lines) := Kit.cell B9_0.out 0 _ rfl
    have c10_0_1 : u9.cell? ⟨w.heap.size, 1, none⟩ = some (.int .i64 s.columns) := Kit.cell B9_0.out 1 _ rfl
    have c10_0_2 : u9.cell? ⟨w.heap.size, 2, none⟩ = some (.int .i64 s.top) := Kit.cell B9_0.out 2 _ rfl
    have c10_0_3 : u9.cell? ⟨w.heap.size, 3, none⟩ = some (.int .i64 s.rows) := Kit.cell B9_0.out 3 _ rfl
    have c10_0_4 : u9.cell? ⟨w.heap.size, 4, none⟩ = some (.int .i64 s.left) := Kit.cell B9_0.out 4 _ rfl
    have c10_0_5 : u9.cell? ⟨w.heap.size, 5, none⟩ = some (.int .i64 s.wide) := Kit.cell B9_0.out 5 _ rfl
    have c10_0_6 : u9.cell? ⟨w.heap.size, 6, none⟩ = some (.int .i64 s.pulse) := Kit.cell B9_0.out 6 _ rfl
    have l10_1 := Kit.lt B9_1.out
    have c10_1_0 : u9.cell? ⟨(w.heap.size + 1), 0, none⟩ = some (.int .i64 p.frame) := Kit.cell B9_1.out 0 _ rfl
    have c10_1_1 : u9.cell? ⟨(w.heap.size + 1), 1, none⟩ = some (.int .i64 p.line) := Kit.cell B9_1.out 1 _ rfl
    have c10_1_2 : u9.cell? ⟨(w.heap.size + 1), 2, none⟩ = some (.int .i64 p.col) := Kit.cell B9_1.out 2 _ rfl
    have l10_2 := Kit.lt B9_2.out
    have z10 := (Z9.out).size
    go_wp2_with fail
    go_ret
    exact ⟨rfl, Z9.out⟩

set_option maxRecDepth 100000 in
set_option maxHeartbeats 8000000 in
theorem back1 (s : Scr) (t : Int) (p : Spt) (w : World) (h : s.ok = true) (hb : s.timeB p = true) (t1 : t ≤ 9223372036854775807) :
    Calls Try.prog 6 #[s.val, .int .i64 t, p.val] w fun e w' => e = .returned (.bool true) ∧ Below w.heap.size w w' := by
  have hc := check_calls s
  rw [Scr.code_yes h] at hc
  have HC := Lib.hid hc; clear hc
  have HBY := Lib.hid fun w => bytes_calls s w h
  have hre := read_encs s h
  have hfi := s.fits h
  have hby : ∀ b ∈ encs s.nums, 0 ≤ b ∧ b < 256 := encs_byte _ (by obtain ⟨a1, a2, b1, b2, _, r1, r2, _, w1, w2, _, f1, f2, p1, p2, t1, t2, tr, lw, _, _, _⟩ := hfi; intro x hx; simp [Scr.nums] at hx; omega)
  have hln : (encs s.nums).length ≤ 100 := by
      obtain ⟨a1, a2, b1, b2, _, r1, r2, _, w1, w2, _, f1, f2, p1, p2, t1, t2, tr, lw, _, _, _⟩ := hfi
      have n1 := enc_len s.lines (by omega); have n2 := enc_len s.columns (by omega); have n3 := enc_len s.top (by omega); have n4 := enc_len s.rows (by omega); have n5 := enc_len s.left (by omega); have n6 := enc_len s.wide (by omega); have n7 := enc_len s.pulse (by omega)
      simp only [encs, Scr.nums, List.length_append, List.length_nil]; omega
  generalize encs s.nums = L at *
  have hrv := readVal_yes hre.2
  rw [hre.1] at hrv
  have HRV := Lib.hid hrv; have HL := Lib.hid hby; clear hrv hby hre hfi
  have HH := Lib.hid h; clear h
  have hT := time_calls_yes s p hb
  have hpp := Scr.timeB_parts hb
  have hS := fun w => spot_yes s (s.at_ p) HH.out hpp.2.1 hpp.2.2 w
  rw [hpp.1] at hS
  have HT := Lib.hid hT; have HS := Lib.hid hS; clear hT hS hb
  generalize s.at_ p = X at *
  unfold Scr.val Scr.vals Spt.val at *
  go_enter Try.func6, Try.ntmps6
  go_wp2_with fail
  generalize hW : (w.alloc (.cells #[.int .i64 s.lines, .int .i64 s.columns, .int .i64 s.top, .int .i64 s.rows, .int .i64 s.left, .int .i64 s.wide, .int .i64 s.pulse] 40 (0, 0))).alloc (.cells #[.int .i64 p.frame, .int .i64 p.line, .int .i64 p.col] 67 (0, 0)) = v0
  have B0 : Hid (v0.heap[w.heap.size]? = some (.cells #[.int .i64 s.lines, .int .i64 s.columns, .int .i64 s.top, .int .i64 s.rows, .int .i64 s.left, .int .i64 s.wide, .int .i64 s.pulse] 40 (0, 0))) := by rw [← hW]; exact Kit.blk2a _ _ _
  have B1 : Hid (v0.heap[w.heap.size + 1]? = some (.cells #[.int .i64 p.frame, .int .i64 p.line, .int .i64 p.col] 67 (0, 0))) := by rw [← hW]; exact Kit.blk2b _ _ _
  have Z0 : Hid (Below w.heap.size w v0) := by rw [← hW]; exact Kit.below2 _ _ _
  clear hW
  refine (lives02_calls _).mono ?_; rintro e u1 ⟨rfl, hb⟩
  have B1_0 := Lib.hid (Kit.kept hb B0.out)
  have B1_1 := Lib.hid (Kit.kept hb B1.out)
  have Z1 := Lib.hid (Kit.then_ (Z0.out) hb); clear hb
  have l2_0 := Kit.lt B1_0.out
  have c2_0_0 : u1.cell? ⟨w.heap.size, 0, none⟩ = some (.int .i64 s.lines) := Kit.cell B1_0.out 0 _ rfl
  have c2_0_1 : u1.cell? ⟨w.heap.size, 1, none⟩ = some (.int .i64 s.columns) := Kit.cell B1_0.out 1 _ rfl
  have c2_0_2 : u1.cell? ⟨w.heap.size, 2, none⟩ = some (.int .i64 s.top) := Kit.cell B1_0.out 2 _ rfl
  have c2_0_3 : u1.cell? ⟨w.heap.size, 3, none⟩ = some (.int .i64 s.rows) := Kit.cell B1_0.out 3 _ rfl
  have c2_0_4 : u1.cell? ⟨w.heap.size, 4, none⟩ = some (.int .i64 s.left) := Kit.cell B1_0.out 4 _ rfl
  have c2_0_5 : u1.cell? ⟨w.heap.size, 5, none⟩ = some (.int .i64 s.wide) := Kit.cell B1_0.out 5 _ rfl
  have c2_0_6 : u1.cell? ⟨w.heap.size, 6, none⟩ = some (.int .i64 s.pulse) := Kit.cell B1_0.out 6 _ rfl
  have l2_1 := Kit.lt B1_1.out
  have z2 := (Z1.out).size
  go_wp2_with fail
  clear l2_0 c2_0_0 c2_0_1 c2_0_2 c2_0_3 c2_0_4 c2_0_5 c2_0_6 l2_1 z2
  refine (HC.out _).mono ?_; rintro e u3 ⟨rfl, hb⟩
  have B3_0 := Lib.hid (Kit.kept hb B1_0.out)
  have B3_1 := Lib.hid (Kit.kept hb B1_1.out)
  have Z3 := Lib.hid (Kit.then_ (Z1.out) hb); clear hb
  have l4_0 := Kit.lt B3_0.out
  have c4_0_0 : u3.cell? ⟨w.heap.size, 0, none⟩ = some (.int .i64 s.lines) := Kit.cell B3_0.out 0 _ rfl
  have c4_0_1 : u3.cell? ⟨w.heap.size, 1, none⟩ = some (.int .i64 s.columns) := Kit.cell B3_0.out 1 _ rfl
  have c4_0_2 : u3.cell? ⟨w.heap.size, 2, none⟩ = some (.int .i64 s.top) := Kit.cell B3_0.out 2 _ rfl
  have c4_0_3 : u3.cell? ⟨w.heap.size, 3, none⟩ = some (.int .i64 s.rows) := Kit.cell B3_0.out 3 _ rfl
  have c4_0_4 : u3.cell? ⟨w.heap.size, 4, none⟩ = some (.int .i64 s.left) := Kit.cell B3_0.out 4 _ rfl
  have c4_0_5 : u3.cell? ⟨w.heap.size, 5, none⟩ = some (.int .i64 s.wide) := Kit.cell B3_0.out 5 _ rfl
  have c4_0_6 : u3.cell? ⟨w.heap.size, 6, none⟩ = some (.int .i64 s.pulse) := Kit.cell B3_0.out 6 _ rfl
  have l4_1 := Kit.lt B3_1.out
  have z4 := (Z3.out).size
  go_wp2_with fail
  clear l4_0 c4_0_0 c4_0_1 c4_0_2 c4_0_3 c4_0_4 c4_0_5 c4_0_6 l4_1 z4
  refine (HBY.out _).mono ?_; rintro e u5 ⟨v1, rfl, hown, hb⟩
  obtain ⟨A1, c1, rfl, hc1, hba⟩ := BytesAt.of_own hown
  have HBA := Lib.hid hba; clear hba hown
  have B5_0 := Lib.hid (Kit.kept hb B3_0.out)
  have B5_1 := Lib.hid (Kit.kept hb B3_1.out)
  have Z5 := Lib.hid (Kit.then_ (Z3.out) hb); clear hb
  go_wp2_with fail
  refine (read_calls A1 _ c1 L _ HBA.out (by omega) HL.out).mono ?_; rintro e u6 ⟨rfl, hb⟩
  have B6_0 := Lib.hid (Kit.kept hb B5_0.out)
  have B6_1 := Lib.hid (Kit.kept hb B5_1.out)
  have Z6 := Lib.hid (Kit.then_ (Z5.out) hb); clear hb
  clear HBA
  rw [HRV.out]
  have l7_0 := Kit.lt B6_0.out
  have c7_0_0 : u6.cell? ⟨w.heap.size, 0, none⟩ = some (.int .i64 s.lines) := Kit.cell B6_0.out 0 _ rfl
  have c7_0_1 : u6.cell? ⟨w.heap.size, 1, none⟩ = some (.int .i64 s.columns) := Kit.cell B6_0.out 1 _ rfl
  have c7_0_2 : u6.cell? ⟨w.heap.size, 2, none⟩ = some (.int .i64 s.top) := Kit.cell B6_0.out 2 _ rfl
  have c7_0_3 : u6.cell? ⟨w.heap.size, 3, none⟩ = some (.int .i64 s.rows) := Kit.cell B6_0.out 3 _ rfl
  have c7_0_4 : u6.cell? ⟨w.heap.size, 4, none⟩ = some (.int .i64 s.left) := Kit.cell B6_0.out 4 _ rfl
  have c7_0_5 : u6.cell? ⟨w.heap.size, 5, none⟩ = some (.int .i64 s.wide) := Kit.cell B6_0.out 5 _ rfl
  have c7_0_6 : u6.cell? ⟨w.heap.size, 6, none⟩ = some (.int .i64 s.pulse) := Kit.cell B6_0.out 6 _ rfl
  have l7_1 := Kit.lt B6_1.out
  have c7_1_0 : u6.cell? ⟨(w.heap.size + 1), 0, none⟩ = some (.int .i64 p.frame) := Kit.cell B6_1.out 0 _ rfl
  have c7_1_1 : u6.cell? ⟨(w.heap.size + 1), 1, none⟩ = some (.int .i64 p.line) := Kit.cell B6_1.out 1 _ rfl
  have c7_1_2 : u6.cell? ⟨(w.heap.size + 1), 2, none⟩ = some (.int .i64 p.col) := Kit.cell B6_1.out 2 _ rfl
  have z7 := (Z6.out).size
  have er := eqScr_rfl s.lines s.columns s.top s.rows s.left s.wide s.pulse
  go_wp2_with fail
  clear l7_0 c7_0_0 c7_0_1 c7_0_2 c7_0_3 c7_0_4 c7_0_5 c7_0_6 l7_1 c7_1_0 c7_1_1 c7_1_2 z7 er
  generalize hW : World.alloc u6 (.cells #[.int .i64 s.lines, .int .i64 s.columns, .int .i64 s.top, .int .i64 s.rows, .int .i64 s.left, .int .i64 s.wide, .int .i64 s.pulse] 40 (0, 0)) = u8
  have B8_0 : Hid (u8.heap[w.heap.size]? = some (.cells #[.int .i64 s.lines, .int .i64 s.columns, .int .i64 s.top, .int .i64 s.rows, .int .i64 s.left, .int .i64 s.wide, .int .i64 s.pulse] 40 (0, 0))) := by rw [← hW]; exact Kit.blk_old B6_0.out _
  have B8_1 : Hid (u8.heap[(w.heap.size + 1)]? = some (.cells #[.int .i64 p.frame, .int .i64 p.line, .int .i64 p.col] 67 (0, 0))) := by rw [← hW]; exact Kit.blk_old B6_1.out _
  have B8_n : Hid (u8.heap[u6.heap.size]? = some (.cells #[.int .i64 s.lines, .int .i64 s.columns, .int .i64 s.top, .int .i64 s.rows, .int .i64 s.left, .int .i64 s.wide, .int .i64 s.pulse] 40 (0, 0))) := by rw [← hW]; exact Kit.blk1 _ _
  have Z8 : Hid (Below w.heap.size w u8) := by rw [← hW]; exact (Z6.out).alloc (Z6.out).size _
  clear hW
  have yR := (Z6.out).size
  have m8_0 := Kit.lt B6_0.out
  have m8_1 := Kit.lt B6_1.out
  generalize u6.heap.size = R at *
  refine (HT.out _).mono ?_; rintro e u9 ⟨rfl, hb⟩
  have B9_0 := Lib.hid (Kit.kept hb B8_0.out)
  have B9_1 := Lib.hid (Kit.kept hb B8_1.out)
  have B9_2 := Lib.hid (Kit.kept hb B8_n.out)
  have Z9 := Lib.hid (Kit.then_ (Z8.out) hb); clear hb
  have l10_0 := Kit.lt B9_0.out
  have c10_0_0 : u9.cell? ⟨w.heap.size, 0, none⟩ = some (.int .i64 s.lines) := Kit.cell B9_0.out 0 _ rfl
  have c10_0_1 : u9.cell? ⟨w.heap.size, 1, none⟩ = some (.int .i64 s.columns) := Kit.cell B9_0.out 1 _ rfl
  have c10_0_2 : u9.cell? ⟨w.heap.size, 2, none⟩ = some (.int .i64 s.top) := Kit.cell B9_0.out 2 _ rfl
  have c10_0_3 : u9.cell? ⟨w.heap.size, 3, none⟩ = some (.int .i64 s.rows) := Kit.cell B9_0.out 3 _ rfl
  have c10_0_4 : u9.cell? ⟨w.heap.size, 4, none⟩ = some (.int .i64 s.left) := Kit.cell B9_0.out 4 _ rfl
  have c10_0_5 : u9.cell? ⟨w.heap.size, 5, none⟩ = some (.int .i64 s.wide) := Kit.cell B9_0.out 5 _ rfl
  have c10_0_6 : u9.cell? ⟨w.heap.size, 6, none⟩ = some (.int .i64 s.pulse) := Kit.cell B9_0.out 6 _ rfl
  have l10_1 := Kit.lt B9_1.out
  have l10_2 := Kit.lt B9_2.out
  have z10 := (Z9.out).size
  go_wp2_with fail
  clear l10_0 c10_0_0 c10_0_1 c10_0_2 c10_0_3 c10_0_4 c10_0_5 c10_0_6 l10_1 l10_2 z10
  refine (HS.out _).mono ?_; rintro e u11 ⟨rfl, hb⟩
  have B11_0 := Lib.hid (Kit.kept hb B9_0.out)
  have B11_1 := Lib.hid (Kit.kept hb B9_1.out)
  have B11_2 := Lib.hid (Kit.kept hb B9_2.out)
  have Z11 := Lib.hid (Kit.then_ (Z9.out) hb); clear hb
  by_cases t0 : 0 ≤ t
  · by_cases t2 : 1099511627776 ≤ t
    · have dt0 : decide (t < 0) = false := decide_eq_false (by omega)
      have dt2 : decide (1099511627776 ≤ t) = true := decide_eq_true t2
      have l12_0 := Kit.lt B11_0.out
      have c12_0_0 : u11.cell? ⟨w.heap.size, 0, none⟩ = some (.int .i64 s.lines) := Kit.cell B11_0.out 0 _ rfl
      have c12_0_1 : u11.cell? ⟨w.heap.size, 1, none⟩ = some (.int .i64 s.columns) := Kit.cell B11_0.out 1 _ rfl
      have c12_0_2 : u11.cell? ⟨w.heap.size, 2, none⟩ = some (.int .i64 s.top) := Kit.cell B11_0.out 2 _ rfl
      have c12_0_3 : u11.cell? ⟨w.heap.size, 3, none⟩ = some (.int .i64 s.rows) := Kit.cell B11_0.out 3 _ rfl
      have c12_0_4 : u11.cell? ⟨w.heap.size, 4, none⟩ = some (.int .i64 s.left) := Kit.cell B11_0.out 4 _ rfl
      have c12_0_5 : u11.cell? ⟨w.heap.size, 5, none⟩ = some (.int .i64 s.wide) := Kit.cell B11_0.out 5 _ rfl
      have c12_0_6 : u11.cell? ⟨w.heap.size, 6, none⟩ = some (.int .i64 s.pulse) := Kit.cell B11_0.out 6 _ rfl
      have l12_1 := Kit.lt B11_1.out
      have c12_1_0 : u11.cell? ⟨(w.heap.size + 1), 0, none⟩ = some (.int .i64 p.frame) := Kit.cell B11_1.out 0 _ rfl
      have c12_1_1 : u11.cell? ⟨(w.heap.size + 1), 1, none⟩ = some (.int .i64 p.line) := Kit.cell B11_1.out 1 _ rfl
      have c12_1_2 : u11.cell? ⟨(w.heap.size + 1), 2, none⟩ = some (.int .i64 p.col) := Kit.cell B11_1.out 2 _ rfl
      have l12_2 := Kit.lt B11_2.out
      have z12 := (Z11.out).size
      have er := eqSpt_rfl p.frame p.line p.col
      go_wp2_with fail
      go_ret
      exact ⟨rfl, (Z11.out).alloc (by omega) _⟩
    · have dt0 : decide (t < 0) = false := decide_eq_false (by omega)
      have dt2 : decide (1099511627776 ≤ t) = false := decide_eq_false t2
      have hS1 := fun w => spot_yes s t HH.out t0 (by omega) w
      have hS2 := fun w => spot_yes s (t + 1) HH.out (by omega) (by omega) w
      have hT2 := fun w => time_calls_yes s (s.spot t) (s.time_spot HH.out t t0 (by omega)) w
      rw [s.at_spot HH.out t] at hT2
      obtain ⟨q0, q1, q2, q3, q4, q5⟩ := s.spot_in HH.out t t0
      have hfi := s.fits HH.out
      have sl := hfi.l2; have sc := hfi.c2; clear hfi
      have hn : ((s.spot t).col + 1 ≠ s.columns → s.spot (t + 1) = ⟨(s.spot t).frame, (s.spot t).line, (s.spot t).col + 1⟩) ∧ ((s.spot t).col + 1 = s.columns → (s.spot t).line + 1 ≠ s.lines → s.spot (t + 1) = ⟨(s.spot t).frame, (s.spot t).line + 1, 0⟩) ∧ ((s.spot t).col + 1 = s.columns → (s.spot t).line + 1 = s.lines → s.spot (t + 1) = ⟨(s.spot t).frame + 1, 0, 0⟩) := ⟨s.next1 HH.out t t0, s.next2 HH.out t t0, s.next3 HH.out t t0⟩
      generalize s.spot (t + 1) = N at *
      generalize s.spot t = M at *
      obtain ⟨fr, li, co⟩ := M
      simp only [Spt.val] at *
      have dl : (li == s.lines) = false := beq_eq_false_iff_ne.2 (by omega)
      have HS1 := Lib.hid hS1; have HT2 := Lib.hid hT2; clear hS1 hT2
      by_cases e1 : co + 1 ≠ s.columns
      · have hN : N = ⟨fr, li, co + 1⟩ := hn.1 e1
        subst hN
        have HS2 := Lib.hid hS2; clear hS2 hn
        have d1 : (co + 1 == s.columns) = false := beq_eq_false_iff_ne.2 e1
        clear e1
        have l12_0 := Kit.lt B11_0.out
        have c12_0_0 : u11.cell? ⟨w.heap.size, 0, none⟩ = some (.int .i64 s.lines) := Kit.cell B11_0.out 0 _ rfl
        have c12_0_1 : u11.cell? ⟨w.heap.size, 1, none⟩ = some (.int .i64 s.columns) := Kit.cell B11_0.out 1 _ rfl
        have c12_0_2 : u11.cell? ⟨w.heap.size, 2, none⟩ = some (.int .i64 s.top) := Kit.cell B11_0.out 2 _ rfl
        have c12_0_3 : u11.cell? ⟨w.heap.size, 3, none⟩ = some (.int .i64 s.rows) := Kit.cell B11_0.out 3 _ rfl
        have c12_0_4 : u11.cell? ⟨w.heap.size, 4, none⟩ = some (.int .i64 s.left) := Kit.cell B11_0.out 4 _ rfl
        have c12_0_5 : u11.cell? ⟨w.heap.size, 5, none⟩ = some (.int .i64 s.wide) := Kit.cell B11_0.out 5 _ rfl
        have c12_0_6 : u11.cell? ⟨w.heap.size, 6, none⟩ = some (.int .i64 s.pulse) := Kit.cell B11_0.out 6 _ rfl
        have l12_1 := Kit.lt B11_1.out
        have c12_1_0 : u11.cell? ⟨(w.heap.size + 1), 0, none⟩ = some (.int .i64 p.frame) := Kit.cell B11_1.out 0 _ rfl
        have c12_1_1 : u11.cell? ⟨(w.heap.size + 1), 1, none⟩ = some (.int .i64 p.line) := Kit.cell B11_1.out 1 _ rfl
        have c12_1_2 : u11.cell? ⟨(w.heap.size + 1), 2, none⟩ = some (.int .i64 p.col) := Kit.cell B11_1.out 2 _ rfl
        have l12_2 := Kit.lt B11_2.out
        have z12 := (Z11.out).size
        have er := eqSpt_rfl p.frame p.line p.col
        go_wp2_with fail
        clear l12_0 c12_0_0 c12_0_1 c12_0_2 c12_0_3 c12_0_4 c12_0_5 c12_0_6 l12_1 c12_1_0 c12_1_1 c12_1_2 l12_2 z12 er
        generalize hW : World.alloc u11 (.cells #[.int .i64 p.frame, .int .i64 p.line, .int .i64 p.col] 67 (0, 0)) = u13
        have B13_0 : Hid (u13.heap[w.heap.size]? = some (.cells #[.int .i64 s.lines, .int .i64 s.columns, .int .i64 s.top, .int .i64 s.rows, .int .i64 s.left, .int .i64 s.wide, .int .i64 s.pulse] 40 (0, 0))) := by rw [← hW]; exact Kit.blk_old B11_0.out _
        have B13_1 : Hid (u13.heap[(w.heap.size + 1)]? = some (.cells #[.int .i64 p.frame, .int .i64 p.line, .int .i64 p.col] 67 (0, 0))) := by rw [← hW]; exact Kit.blk_old B11_1.out _
        have B13_2 : Hid (u13.heap[R]? = some (.cells #[.int .i64 s.lines, .int .i64 s.columns, .int .i64 s.top, .int .i64 s.rows, .int .i64 s.left, .int .i64 s.wide, .int .i64 s.pulse] 40 (0, 0))) := by rw [← hW]; exact Kit.blk_old B11_2.out _
        have B13_n : Hid (u13.heap[u11.heap.size]? = some (.cells #[.int .i64 p.frame, .int .i64 p.line, .int .i64 p.col] 67 (0, 0))) := by rw [← hW]; exact Kit.blk1 _ _
        have Z13 : Hid (Below w.heap.size w u13) := by rw [← hW]; exact (Z11.out).alloc (Z11.out).size _
        clear hW
        have yQ := (Z11.out).size
        have m13_0 := Kit.lt B11_0.out
        have m13_1 := Kit.lt B11_1.out
        have m13_2 := Kit.lt B11_2.out
        generalize u11.heap.size = Q at *
        refine (HS1.out _).mono ?_; rintro e u14 ⟨rfl, hb⟩
        have B14_0 := Lib.hid (Kit.kept hb B13_0.out)
        have B14_1 := Lib.hid (Kit.kept hb B13_1.out)
        have B14_2 := Lib.hid (Kit.kept hb B13_2.out)
        have B14_3 := Lib.hid (Kit.kept hb B13_n.out)
        have Z14 := Lib.hid (Kit.then_ (Z13.out) hb); clear hb
        have l15_0 := Kit.lt B14_0.out
        have c15_0_0 : u14.cell? ⟨w.heap.size, 0, none⟩ = some (.int .i64 s.lines) := Kit.cell B14_0.out 0 _ rfl
        have c15_0_1 : u14.cell? ⟨w.heap.size, 1, none⟩ = some (.int .i64 s.columns) := Kit.cell B14_0.out 1 _ rfl
        have c15_0_2 : u14.cell? ⟨w.heap.size, 2, none⟩ = some (.int .i64 s.top) := Kit.cell B14_0.out 2 _ rfl
        have c15_0_3 : u14.cell? ⟨w.heap.size, 3, none⟩ = some (.int .i64 s.rows) := Kit.cell B14_0.out 3 _ rfl
        have c15_0_4 : u14.cell? ⟨w.heap.size, 4, none⟩ = some (.int .i64 s.left) := Kit.cell B14_0.out 4 _ rfl
        have c15_0_5 : u14.cell? ⟨w.heap.size, 5, none⟩ = some (.int .i64 s.wide) := Kit.cell B14_0.out 5 _ rfl
        have c15_0_6 : u14.cell? ⟨w.heap.size, 6, none⟩ = some (.int .i64 s.pulse) := Kit.cell B14_0.out 6 _ rfl
        have l15_1 := Kit.lt B14_1.out
        have l15_2 := Kit.lt B14_2.out
        have l15_3 := Kit.lt B14_3.out
        have z15 := (Z14.out).size
        go_wp2_with fail
        clear l15_0 c15_0_0 c15_0_1 c15_0_2 c15_0_3 c15_0_4 c15_0_5 c15_0_6 l15_1 l15_2 l15_3 z15
        generalize hW : World.alloc u14 (.cells #[.int .i64 fr, .int .i64 li, .int .i64 co] 67 (0, 0)) = u16
        have B16_0 : Hid (u16.heap[w.heap.size]? = some (.cells #[.int .i64 s.lines, .int .i64 s.columns, .int .i64 s.top, .int .i64 s.rows, .int .i64 s.left, .int .i64 s.wide, .int .i64 s.pulse] 40 (0, 0))) := by rw [← hW]; exact Kit.blk_old B14_0.out _
        have B16_1 : Hid (u16.heap[(w.heap.size + 1)]? = some (.cells #[.int .i64 p.frame, .int .i64 p.line, .int .i64 p.col] 67 (0, 0))) := by rw [← hW]; exact Kit.blk_old B14_1.out _
        have B16_2 : Hid (u16.heap[R]? = some (.cells #[.int .i64 s.lines, .int .i64 s.columns, .int .i64 s.top, .int .i64 s.rows, .int .i64 s.left, .int .i64 s.wide, .int .i64 s.pulse] 40 (0, 0))) := by rw [← hW]; exact Kit.blk_old B14_2.out _
        have B16_3 : Hid (u16.heap[Q]? = some (.cells #[.int .i64 p.frame, .int .i64 p.line, .int .i64 p.col] 67 (0, 0))) := by rw [← hW]; exact Kit.blk_old B14_3.out _
        have B16_n : Hid (u16.heap[u14.heap.size]? = some (.cells #[.int .i64 fr, .int .i64 li, .int .i64 co] 67 (0, 0))) := by rw [← hW]; exact Kit.blk1 _ _
        have Z16 : Hid (Below w.heap.size w u16) := by rw [← hW]; exact (Z14.out).alloc (Z14.out).size _
        clear hW
        have yV := (Z14.out).size
        have m16_0 := Kit.lt B14_0.out
        have m16_1 := Kit.lt B14_1.out
        have m16_2 := Kit.lt B14_2.out
        have m16_3 := Kit.lt B14_3.out
        generalize u14.heap.size = V at *
        refine (HT2.out _).mono ?_; rintro e u17 ⟨rfl, hb⟩
        have B17_0 := Lib.hid (Kit.kept hb B16_0.out)
        have B17_1 := Lib.hid (Kit.kept hb B16_1.out)
        have B17_2 := Lib.hid (Kit.kept hb B16_2.out)
        have B17_3 := Lib.hid (Kit.kept hb B16_3.out)
        have B17_4 := Lib.hid (Kit.kept hb B16_n.out)
        have Z17 := Lib.hid (Kit.then_ (Z16.out) hb); clear hb
        have l18_0 := Kit.lt B17_0.out
        have c18_0_0 : u17.cell? ⟨w.heap.size, 0, none⟩ = some (.int .i64 s.lines) := Kit.cell B17_0.out 0 _ rfl
        have c18_0_1 : u17.cell? ⟨w.heap.size, 1, none⟩ = some (.int .i64 s.columns) := Kit.cell B17_0.out 1 _ rfl
        have c18_0_2 : u17.cell? ⟨w.heap.size, 2, none⟩ = some (.int .i64 s.top) := Kit.cell B17_0.out 2 _ rfl
        have c18_0_3 : u17.cell? ⟨w.heap.size, 3, none⟩ = some (.int .i64 s.rows) := Kit.cell B17_0.out 3 _ rfl
        have c18_0_4 : u17.cell? ⟨w.heap.size, 4, none⟩ = some (.int .i64 s.left) := Kit.cell B17_0.out 4 _ rfl
        have c18_0_5 : u17.cell? ⟨w.heap.size, 5, none⟩ = some (.int .i64 s.wide) := Kit.cell B17_0.out 5 _ rfl
        have c18_0_6 : u17.cell? ⟨w.heap.size, 6, none⟩ = some (.int .i64 s.pulse) := Kit.cell B17_0.out 6 _ rfl
        have l18_1 := Kit.lt B17_1.out
        have l18_2 := Kit.lt B17_2.out
        have l18_3 := Kit.lt B17_3.out
        have l18_4 := Kit.lt B17_4.out
        have z18 := (Z17.out).size
        go_wp2_with fail
        clear l18_0 c18_0_0 c18_0_1 c18_0_2 c18_0_3 c18_0_4 c18_0_5 c18_0_6 l18_1 l18_2 l18_3 l18_4 z18
        refine (HS2.out _).mono ?_; rintro e u19 ⟨rfl, hb⟩
        have B19_0 := Lib.hid (Kit.kept hb B17_0.out)
        have B19_1 := Lib.hid (Kit.kept hb B17_1.out)
        have B19_2 := Lib.hid (Kit.kept hb B17_2.out)
        have B19_3 := Lib.hid (Kit.kept hb B17_3.out)
        have B19_4 := Lib.hid (Kit.kept hb B17_4.out)
        have Z19 := Lib.hid (Kit.then_ (Z17.out) hb); clear hb
        have l20_0 := Kit.lt B19_0.out
        have c20_0_0 : u19.cell? ⟨w.heap.size, 0, none⟩ = some (.int .i64 s.lines) := Kit.cell B19_0.out 0 _ rfl
        have c20_0_1 : u19.cell? ⟨w.heap.size, 1, none⟩ = some (.int .i64 s.columns) := Kit.cell B19_0.out 1 _ rfl
        have c20_0_2 : u19.cell? ⟨w.heap.size, 2, none⟩ = some (.int .i64 s.top) := Kit.cell B19_0.out 2 _ rfl
        have c20_0_3 : u19.cell? ⟨w.heap.size, 3, none⟩ = some (.int .i64 s.rows) := Kit.cell B19_0.out 3 _ rfl
        have c20_0_4 : u19.cell? ⟨w.heap.size, 4, none⟩ = some (.int .i64 s.left) := Kit.cell B19_0.out 4 _ rfl
        have c20_0_5 : u19.cell? ⟨w.heap.size, 5, none⟩ = some (.int .i64 s.wide) := Kit.cell B19_0.out 5 _ rfl
        have c20_0_6 : u19.cell? ⟨w.heap.size, 6, none⟩ = some (.int .i64 s.pulse) := Kit.cell B19_0.out 6 _ rfl
        have l20_1 := Kit.lt B19_1.out
        have l20_2 := Kit.lt B19_2.out
        have l20_3 := Kit.lt B19_3.out
        have l20_4 := Kit.lt B19_4.out
        have c20_4_0 : u19.cell? ⟨V, 0, none⟩ = some (.int .i64 fr) := Kit.cell B19_4.out 0 _ rfl
        have f20_4_0 := Kit.frz B19_4.out 0
        have c20_4_1 : u19.cell? ⟨V, 1, none⟩ = some (.int .i64 li) := Kit.cell B19_4.out 1 _ rfl
        have f20_4_1 := Kit.frz B19_4.out 1
        have c20_4_2 : u19.cell? ⟨V, 2, none⟩ = some (.int .i64 co) := Kit.cell B19_4.out 2 _ rfl
        have f20_4_2 := Kit.frz B19_4.out 2
        have z20 := (Z19.out).size
        go_upto_region 21 with fail
        clear l20_0 c20_0_0 c20_0_1 c20_0_2 c20_0_3 c20_0_4 c20_0_5 c20_0_6 l20_1 l20_2 l20_3 l20_4 c20_4_0 f20_4_0 c20_4_1 f20_4_1 c20_4_2 f20_4_2 z20
        generalize hW : World.alloc u19 (.cells #[.int .i64 fr, .int .i64 li, .int .i64 (co + 1)] 67 (0, 0)) = u21
        have B21_0 : Hid (u21.heap[w.heap.size]? = some (.cells #[.int .i64 s.lines, .int .i64 s.columns, .int .i64 s.top, .int .i64 s.rows, .int .i64 s.left, .int .i64 s.wide, .int .i64 s.pulse] 40 (0, 0))) := by rw [← hW]; exact Kit.blk_old B19_0.out _
        have B21_1 : Hid (u21.heap[(w.heap.size + 1)]? = some (.cells #[.int .i64 p.frame, .int .i64 p.line, .int .i64 p.col] 67 (0, 0))) := by rw [← hW]; exact Kit.blk_old B19_1.out _
        have B21_2 : Hid (u21.heap[R]? = some (.cells #[.int .i64 s.lines, .int .i64 s.columns, .int .i64 s.top, .int .i64 s.rows, .int .i64 s.left, .int .i64 s.wide, .int .i64 s.pulse] 40 (0, 0))) := by rw [← hW]; exact Kit.blk_old B19_2.out _
        have B21_3 : Hid (u21.heap[Q]? = some (.cells #[.int .i64 p.frame, .int .i64 p.line, .int .i64 p.col] 67 (0, 0))) := by rw [← hW]; exact Kit.blk_old B19_3.out _
        have B21_4 : Hid (u21.heap[V]? = some (.cells #[.int .i64 fr, .int .i64 li, .int .i64 co] 67 (0, 0))) := by rw [← hW]; exact Kit.blk_old B19_4.out _
        have B21_n : Hid (u21.heap[u19.heap.size]? = some (.cells #[.int .i64 fr, .int .i64 li, .int .i64 (co + 1)] 67 (0, 0))) := by rw [← hW]; exact Kit.blk1 _ _
        have Z21 : Hid (Below w.heap.size w u21) := by rw [← hW]; exact (Z19.out).alloc (Z19.out).size _
        clear hW
        have yU := (Z19.out).size
        have m21_0 := Kit.lt B19_0.out
        have m21_1 := Kit.lt B19_1.out
        have m21_2 := Kit.lt B19_2.out
        have m21_3 := Kit.lt B19_3.out
        have m21_4 := Kit.lt B19_4.out
        generalize u19.heap.size = U at *
        have l22_0 := Kit.lt B21_0.out
        have c22_0_0 : u21.cell? ⟨w.heap.size, 0, none⟩ = some (.int .i64 s.lines) := Kit.cell B21_0.out 0 _ rfl
        have c22_0_1 : u21.cell? ⟨w.heap.size, 1, none⟩ = some (.int .i64 s.columns) := Kit.cell B21_0.out 1 _ rfl
        have c22_0_2 : u21.cell? ⟨w.heap.size, 2, none⟩ = some (.int .i64 s.top) := Kit.cell B21_0.out 2 _ rfl
        have c22_0_3 : u21.cell? ⟨w.heap.size, 3, none⟩ = some (.int .i64 s.rows) := Kit.cell B21_0.out 3 _ rfl
        have c22_0_4 : u21.cell? ⟨w.heap.size, 4, none⟩ = some (.int .i64 s.left) := Kit.cell B21_0.out 4 _ rfl
        have c22_0_5 : u21.cell? ⟨w.heap.size, 5, none⟩ = some (.int .i64 s.wide) := Kit.cell B21_0.out 5 _ rfl
        have c22_0_6 : u21.cell? ⟨w.heap.size, 6, none⟩ = some (.int .i64 s.pulse) := Kit.cell B21_0.out 6 _ rfl
        have l22_1 := Kit.lt B21_1.out
        have l22_2 := Kit.lt B21_2.out
        have l22_3 := Kit.lt B21_3.out
        have l22_4 := Kit.lt B21_4.out
        have c22_4_0 : u21.cell? ⟨V, 0, none⟩ = some (.int .i64 fr) := Kit.cell B21_4.out 0 _ rfl
        have f22_4_0 := Kit.frz B21_4.out 0
        have c22_4_1 : u21.cell? ⟨V, 1, none⟩ = some (.int .i64 li) := Kit.cell B21_4.out 1 _ rfl
        have f22_4_1 := Kit.frz B21_4.out 1
        have c22_4_2 : u21.cell? ⟨V, 2, none⟩ = some (.int .i64 co) := Kit.cell B21_4.out 2 _ rfl
        have f22_4_2 := Kit.frz B21_4.out 2
        have l22_5 := Kit.lt B21_n.out
        have c22_5_0 : u21.cell? ⟨U, 0, none⟩ = some (.int .i64 fr) := Kit.cell B21_n.out 0 _ rfl
        have c22_5_1 : u21.cell? ⟨U, 1, none⟩ = some (.int .i64 li) := Kit.cell B21_n.out 1 _ rfl
        have c22_5_2 : u21.cell? ⟨U, 2, none⟩ = some (.int .i64 (co + 1)) := Kit.cell B21_n.out 2 _ rfl
        have z22 := (Z21.out).size
        have nv : U ≠ V := by omega
        have er := eqSpt_rfl (fr) (li) (co + 1)
        go_upto_region 22 with fail
        clear l22_0 c22_0_0 c22_0_1 c22_0_2 c22_0_3 c22_0_4 c22_0_5 c22_0_6 l22_1 l22_2 l22_3 l22_4 c22_4_0 f22_4_0 c22_4_1 f22_4_1 c22_4_2 f22_4_2 l22_5 c22_5_0 c22_5_1 c22_5_2 z22 nv er
        generalize hW : (World.setCell u21 ⟨V, 2, none⟩ (.int .i64 (co + 1))) = u23
        have B23_0 : Hid (u23.heap[w.heap.size]? = some (.cells #[.int .i64 s.lines, .int .i64 s.columns, .int .i64 s.top, .int .i64 s.rows, .int .i64 s.left, .int .i64 s.wide, .int .i64 s.pulse] 40 (0, 0))) := by rw [← hW]; exact (Kit.set_far B21_0.out _ (by simp only; omega) _)
        have B23_1 : Hid (u23.heap[(w.heap.size + 1)]? = some (.cells #[.int .i64 p.frame, .int .i64 p.line, .int .i64 p.col] 67 (0, 0))) := by rw [← hW]; exact (Kit.set_far B21_1.out _ (by simp only; omega) _)
        have B23_2 : Hid (u23.heap[R]? = some (.cells #[.int .i64 s.lines, .int .i64 s.columns, .int .i64 s.top, .int .i64 s.rows, .int .i64 s.left, .int .i64 s.wide, .int .i64 s.pulse] 40 (0, 0))) := by rw [← hW]; exact (Kit.set_far B21_2.out _ (by simp only; omega) _)
        have B23_3 : Hid (u23.heap[Q]? = some (.cells #[.int .i64 p.frame, .int .i64 p.line, .int .i64 p.col] 67 (0, 0))) := by rw [← hW]; exact (Kit.set_far B21_3.out _ (by simp only; omega) _)
        have B23_4 : Hid (u23.heap[V]? = some (.cells #[.int .i64 fr, .int .i64 li, .int .i64 (co + 1)] 67 (0, 0))) := by rw [← hW]; exact (Kit.set_ B21_4.out 2 _ rfl)
        have B23_5 : Hid (u23.heap[U]? = some (.cells #[.int .i64 fr, .int .i64 li, .int .i64 (co + 1)] 67 (0, 0))) := by rw [← hW]; exact (Kit.set_far B21_n.out _ (by simp only; omega) _)
        have Z23 : Hid (Below w.heap.size w u23) := by rw [← hW]; exact ((Z21.out).setCell (by simp only; omega) _)
        clear hW
        have l24_0 := Kit.lt B23_0.out
        have c24_0_0 : u23.cell? ⟨w.heap.size, 0, none⟩ = some (.int .i64 s.lines) := Kit.cell B23_0.out 0 _ rfl
        have c24_0_1 : u23.cell? ⟨w.heap.size, 1, none⟩ = some (.int .i64 s.columns) := Kit.cell B23_0.out 1 _ rfl
        have c24_0_2 : u23.cell? ⟨w.heap.size, 2, none⟩ = some (.int .i64 s.top) := Kit.cell B23_0.out 2 _ rfl
        have c24_0_3 : u23.cell? ⟨w.heap.size, 3, none⟩ = some (.int .i64 s.rows) := Kit.cell B23_0.out 3 _ rfl
        have c24_0_4 : u23.cell? ⟨w.heap.size, 4, none⟩ = some (.int .i64 s.left) := Kit.cell B23_0.out 4 _ rfl
        have c24_0_5 : u23.cell? ⟨w.heap.size, 5, none⟩ = some (.int .i64 s.wide) := Kit.cell B23_0.out 5 _ rfl
        have c24_0_6 : u23.cell? ⟨w.heap.size, 6, none⟩ = some (.int .i64 s.pulse) := Kit.cell B23_0.out 6 _ rfl
        have l24_1 := Kit.lt B23_1.out
        have l24_2 := Kit.lt B23_2.out
        have l24_3 := Kit.lt B23_3.out
        have l24_4 := Kit.lt B23_4.out
        have c24_4_0 : u23.cell? ⟨V, 0, none⟩ = some (.int .i64 fr) := Kit.cell B23_4.out 0 _ rfl
        have f24_4_0 := Kit.frz B23_4.out 0
        have c24_4_1 : u23.cell? ⟨V, 1, none⟩ = some (.int .i64 li) := Kit.cell B23_4.out 1 _ rfl
        have f24_4_1 := Kit.frz B23_4.out 1
        have c24_4_2 : u23.cell? ⟨V, 2, none⟩ = some (.int .i64 (co + 1)) := Kit.cell B23_4.out 2 _ rfl
        have f24_4_2 := Kit.frz B23_4.out 2
        have l24_5 := Kit.lt B23_5.out
        have c24_5_0 : u23.cell? ⟨U, 0, none⟩ = some (.int .i64 fr) := Kit.cell B23_5.out 0 _ rfl
        have c24_5_1 : u23.cell? ⟨U, 1, none⟩ = some (.int .i64 li) := Kit.cell B23_5.out 1 _ rfl
        have c24_5_2 : u23.cell? ⟨U, 2, none⟩ = some (.int .i64 (co + 1)) := Kit.cell B23_5.out 2 _ rfl
        have z24 := (Z23.out).size
        have nv : U ≠ V := by omega
        have er := eqSpt_rfl (fr) (li) (co + 1)
        go_wp2_with fail
        go_ret
        exact ⟨rfl, Z23.out⟩
      · have e1 : co + 1 = s.columns := by omega
        by_cases e2 : li + 1 ≠ s.lines
        · have hN : N = ⟨fr, li + 1, 0⟩ := hn.2.1 e1 e2
          subst hN
          have HS2 := Lib.hid hS2; clear hS2 hn
          have d1 : (co + 1 == s.columns) = true := beq_iff_eq.2 e1
          have d2 : (li + 1 == s.lines) = false := beq_eq_false_iff_ne.2 e2
          clear e1 e2
          have l12_0 := Kit.lt B11_0.out
          have c12_0_0 : u11.cell? ⟨w.heap.size, 0, none⟩ = some (.int .i64 s.lines) := Kit.cell B11_0.out 0 _ rfl
          have c12_0_1 : u11.cell? ⟨w.heap.size, 1, none⟩ = some (.int .i64 s.columns) := Kit.cell B11_0.out 1 _ rfl
          have c12_0_2 : u11.cell? ⟨w.heap.size, 2, none⟩ = some (.int .i64 s.top) := Kit.cell B11_0.out 2 _ rfl
          have c12_0_3 : u11.cell? ⟨w.heap.size, 3, none⟩ = some (.int .i64 s.rows) := Kit.cell B11_0.out 3 _ rfl
          have c12_0_4 : u11.cell? ⟨w.heap.size, 4, none⟩ = some (.int .i64 s.left) := Kit.cell B11_0.out 4 _ rfl
          have c12_0_5 : u11.cell? ⟨w.heap.size, 5, none⟩ = some (.int .i64 s.wide) := Kit.cell B11_0.out 5 _ rfl
          have c12_0_6 : u11.cell? ⟨w.heap.size, 6, none⟩ = some (.int .i64 s.pulse) := Kit.cell B11_0.out 6 _ rfl
          have l12_1 := Kit.lt B11_1.out
          have c12_1_0 : u11.cell? ⟨(w.heap.size + 1), 0, none⟩ = some (.int .i64 p.frame) := Kit.cell B11_1.out 0 _ rfl
          have c12_1_1 : u11.cell? ⟨(w.heap.size + 1), 1, none⟩ = some (.int .i64 p.line) := Kit.cell B11_1.out 1 _ rfl
          have c12_1_2 : u11.cell? ⟨(w.heap.size + 1), 2, none⟩ = some (.int .i64 p.col) := Kit.cell B11_1.out 2 _ rfl
          have l12_2 := Kit.lt B11_2.out
          have z12 := (Z11.out).size
          have er := eqSpt_rfl p.frame p.line p.col
          go_wp2_with fail
          clear l12_0 c12_0_0 c12_0_1 c12_0_2 c12_0_3 c12_0_4 c12_0_5 c12_0_6 l12_1 c12_1_0 c12_1_1 c12_1_2 l12_2 z12 er
          generalize hW : World.alloc u11 (.cells #[.int .i64 p.frame, .int .i64 p.line, .int .i64 p.col] 67 (0, 0)) = u13
          have B13_0 : Hid (u13.heap[w.heap.size]? = some (.cells #[.int .i64 s.lines, .int .i64 s.columns, .int .i64 s.top, .int .i64 s.rows, .int .i64 s.left, .int .i64 s.wide, .int .i64 s.pulse] 40 (0, 0))) := by rw [← hW]; exact Kit.blk_old B11_0.out _
          have B13_1 : Hid (u13.heap[(w.heap.size + 1)]? = some (.cells #[.int .i64 p.frame, .int .i64 p.line, .int .i64 p.col] 67 (0, 0))) := by rw [← hW]; exact Kit.blk_old B11_1.out _
          have B13_2 : Hid (u13.heap[R]? = some (.cells #[.int .i64 s.lines, .int .i64 s.columns, .int .i64 s.top, .int .i64 s.rows, .int .i64 s.left, .int .i64 s.wide, .int .i64 s.pulse] 40 (0, 0))) := by rw [← hW]; exact Kit.blk_old B11_2.out _
          have B13_n : Hid (u13.heap[u11.heap.size]? = some (.cells #[.int .i64 p.frame, .int .i64 p.line, .int .i64 p.col] 67 (0, 0))) := by rw [← hW]; exact Kit.blk1 _ _
          have Z13 : Hid (Below w.heap.size w u13) := by rw [← hW]; exact (Z11.out).alloc (Z11.out).size _
          clear hW
          have yQ := (Z11.out).size
          have m13_0 := Kit.lt B11_0.out
          have m13_1 := Kit.lt B11_1.out
          have m13_2 := Kit.lt B11_2.out
          generalize u11.heap.size = Q at *
          refine (HS1.out _).mono ?_; rintro e u14 ⟨rfl, hb⟩
          have B14_0 := Lib.hid (Kit.kept hb B13_0.out)
          have B14_1 := Lib.hid (Kit.kept hb B13_1.out)
          have B14_2 := Lib.hid (Kit.kept hb B13_2.out)
          have B14_3 := Lib.hid (Kit.kept hb B13_n.out)
          have Z14 := Lib.hid (Kit.then_ (Z13.out) hb); clear hb
          have l15_0 := Kit.lt B14_0.out
          have c15_0_0 : u14.cell? ⟨w.heap.size, 0, none⟩ = some (.int .i64 s.lines) := Kit.cell B14_0.out 0 _ rfl
          have c15_0_1 : u14.cell? ⟨w.heap.size, 1, none⟩ = some (.int .i64 s.columns) := Kit.cell B14_0.out 1 _ rfl
          have c15_0_2 : u14.cell? ⟨w.heap.size, 2, none⟩ = some (.int .i64 s.top) := Kit.cell B14_0.out 2 _ rfl
          have c15_0_3 : u14.cell? ⟨w.heap.size, 3, none⟩ = some (.int .i64 s.rows) := Kit.cell B14_0.out 3 _ rfl
          have c15_0_4 : u14.cell? ⟨w.heap.size, 4, none⟩ = some (.int .i64 s.left) := Kit.cell B14_0.out 4 _ rfl
          have c15_0_5 : u14.cell? ⟨w.heap.size, 5, none⟩ = some (.int .i64 s.wide) := Kit.cell B14_0.out 5 _ rfl
          have c15_0_6 : u14.cell? ⟨w.heap.size, 6, none⟩ = some (.int .i64 s.pulse) := Kit.cell B14_0.out 6 _ rfl
          have l15_1 := Kit.lt B14_1.out
          have l15_2 := Kit.lt B14_2.out
          have l15_3 := Kit.lt B14_3.out
          have z15 := (Z14.out).size
          go_wp2_with fail
          clear l15_0 c15_0_0 c15_0_1 c15_0_2 c15_0_3 c15_0_4 c15_0_5 c15_0_6 l15_1 l15_2 l15_3 z15
          generalize hW : World.alloc u14 (.cells #[.int .i64 fr, .int .i64 li, .int .i64 co] 67 (0, 0)) = u16
          have B16_0 : Hid (u16.heap[w.heap.size]? = some (.cells #[.int .i64 s.lines, .int .i64 s.columns, .int .i64 s.top, .int .i64 s.rows, .int .i64 s.left, .int .i64 s.wide, .int .i64 s.pulse] 40 (0, 0))) := by rw [← hW]; exact Kit.blk_old B14_0.out _
          have B16_1 : Hid (u16.heap[(w.heap.size + 1)]? = some (.cells #[.int .i64 p.frame, .int .i64 p.line, .int .i64 p.col] 67 (0, 0))) := by rw [← hW]; exact Kit.blk_old B14_1.out _
          have B16_2 : Hid (u16.heap[R]? = some (.cells #[.int .i64 s.lines, .int .i64 s.columns, .int .i64 s.top, .int .i64 s.rows, .int .i64 s.left, .int .i64 s.wide, .int .i64 s.pulse] 40 (0, 0))) := by rw [← hW]; exact Kit.blk_old B14_2.out _
          have B16_3 : Hid (u16.heap[Q]? = some (.cells #[.int .i64 p.frame, .int .i64 p.line, .int .i64 p.col] 67 (0, 0))) := by rw [← hW]; exact Kit.blk_old B14_3.out _
          have B16_n : Hid (u16.heap[u14.heap.size]? = some (.cells #[.int .i64 fr, .int .i64 li, .int .i64 co] 67 (0, 0))) := by rw [← hW]; exact Kit.blk1 _ _
          have Z16 : Hid (Below w.heap.size w u16) := by rw [← hW]; exact (Z14.out).alloc (Z14.out).size _
          clear hW
          have yV := (Z14.out).size
          have m16_0 := Kit.lt B14_0.out
          have m16_1 := Kit.lt B14_1.out
          have m16_2 := Kit.lt B14_2.out
          have m16_3 := Kit.lt B14_3.out
          generalize u14.heap.size = V at *
          refine (HT2.out _).mono ?_; rintro e u17 ⟨rfl, hb⟩
          have B17_0 := Lib.hid (Kit.kept hb B16_0.out)
          have B17_1 := Lib.hid (Kit.kept hb B16_1.out)
          have B17_2 := Lib.hid (Kit.kept hb B16_2.out)
          have B17_3 := Lib.hid (Kit.kept hb B16_3.out)
          have B17_4 := Lib.hid (Kit.kept hb B16_n.out)
          have Z17 := Lib.hid (Kit.then_ (Z16.out) hb); clear hb
          have l18_0 := Kit.lt B17_0.out
          have c18_0_0 : u17.cell? ⟨w.heap.size, 0, none⟩ = some (.int .i64 s.lines) := Kit.cell B17_0.out 0 _ rfl
          have c18_0_1 : u17.cell? ⟨w.heap.size, 1, none⟩ = some (.int .i64 s.columns) := Kit.cell B17_0.out 1 _ rfl
          have c18_0_2 : u17.cell? ⟨w.heap.size, 2, none⟩ = some (.int .i64 s.top) := Kit.cell B17_0.out 2 _ rfl
          have c18_0_3 : u17.cell? ⟨w.heap.size, 3, none⟩ = some (.int .i64 s.rows) := Kit.cell B17_0.out 3 _ rfl
          have c18_0_4 : u17.cell? ⟨w.heap.size, 4, none⟩ = some (.int .i64 s.left) := Kit.cell B17_0.out 4 _ rfl
          have c18_0_5 : u17.cell? ⟨w.heap.size, 5, none⟩ = some (.int .i64 s.wide) := Kit.cell B17_0.out 5 _ rfl
          have c18_0_6 : u17.cell? ⟨w.heap.size, 6, none⟩ = some (.int .i64 s.pulse) := Kit.cell B17_0.out 6 _ rfl
          have l18_1 := Kit.lt B17_1.out
          have l18_2 := Kit.lt B17_2.out
          have l18_3 := Kit.lt B17_3.out
          have l18_4 := Kit.lt B17_4.out
          have z18 := (Z17.out).size
          go_wp2_with fail
          clear l18_0 c18_0_0 c18_0_1 c18_0_2 c18_0_3 c18_0_4 c18_0_5 c18_0_6 l18_1 l18_2 l18_3 l18_4 z18
          refine (HS2.out _).mono ?_; rintro e u19 ⟨rfl, hb⟩
          have B19_0 := Lib.hid (Kit.kept hb B17_0.out)
          have B19_1 := Lib.hid (Kit.kept hb B17_1.out)
          have B19_2 := Lib.hid (Kit.kept hb B17_2.out)
          have B19_3 := Lib.hid (Kit.kept hb B17_3.out)
          have B19_4 := Lib.hid (Kit.kept hb B17_4.out)
          have Z19 := Lib.hid (Kit.then_ (Z17.out) hb); clear hb
          have l20_0 := Kit.lt B19_0.out
          have c20_0_0 : u19.cell? ⟨w.heap.size, 0, none⟩ = some (.int .i64 s.lines) := Kit.cell B19_0.out 0 _ rfl
          have c20_0_1 : u19.cell? ⟨w.heap.size, 1, none⟩ = some (.int .i64 s.columns) := Kit.cell B19_0.out 1 _ rfl
          have c20_0_2 : u19.cell? ⟨w.heap.size, 2, none⟩ = some (.int .i64 s.top) := Kit.cell B19_0.out 2 _ rfl
          have c20_0_3 : u19.cell? ⟨w.heap.size, 3, none⟩ = some (.int .i64 s.rows) := Kit.cell B19_0.out 3 _ rfl
          have c20_0_4 : u19.cell? ⟨w.heap.size, 4, none⟩ = some (.int .i64 s.left) := Kit.cell B19_0.out 4 _ rfl
          have c20_0_5 : u19.cell? ⟨w.heap.size, 5, none⟩ = some (.int .i64 s.wide) := Kit.cell B19_0.out 5 _ rfl
          have c20_0_6 : u19.cell? ⟨w.heap.size, 6, none⟩ = some (.int .i64 s.pulse) := Kit.cell B19_0.out 6 _ rfl
          have l20_1 := Kit.lt B19_1.out
          have l20_2 := Kit.lt B19_2.out
          have l20_3 := Kit.lt B19_3.out
          have l20_4 := Kit.lt B19_4.out
          have c20_4_0 : u19.cell? ⟨V, 0, none⟩ = some (.int .i64 fr) := Kit.cell B19_4.out 0 _ rfl
          have f20_4_0 := Kit.frz B19_4.out 0
          have c20_4_1 : u19.cell? ⟨V, 1, none⟩ = some (.int .i64 li) := Kit.cell B19_4.out 1 _ rfl
          have f20_4_1 := Kit.frz B19_4.out 1
          have c20_4_2 : u19.cell? ⟨V, 2, none⟩ = some (.int .i64 co) := Kit.cell B19_4.out 2 _ rfl
          have f20_4_2 := Kit.frz B19_4.out 2
          have z20 := (Z19.out).size
          go_upto_region 21 with fail
          clear l20_0 c20_0_0 c20_0_1 c20_0_2 c20_0_3 c20_0_4 c20_0_5 c20_0_6 l20_1 l20_2 l20_3 l20_4 c20_4_0 f20_4_0 c20_4_1 f20_4_1 c20_4_2 f20_4_2 z20
          generalize hW : World.alloc u19 (.cells #[.int .i64 fr, .int .i64 (li + 1), .int .i64 0] 67 (0, 0)) = u21
          have B21_0 : Hid (u21.heap[w.heap.size]? = some (.cells #[.int .i64 s.lines, .int .i64 s.columns, .int .i64 s.top, .int .i64 s.rows, .int .i64 s.left, .int .i64 s.wide, .int .i64 s.pulse] 40 (0, 0))) := by rw [← hW]; exact Kit.blk_old B19_0.out _
          have B21_1 : Hid (u21.heap[(w.heap.size + 1)]? = some (.cells #[.int .i64 p.frame, .int .i64 p.line, .int .i64 p.col] 67 (0, 0))) := by rw [← hW]; exact Kit.blk_old B19_1.out _
          have B21_2 : Hid (u21.heap[R]? = some (.cells #[.int .i64 s.lines, .int .i64 s.columns, .int .i64 s.top, .int .i64 s.rows, .int .i64 s.left, .int .i64 s.wide, .int .i64 s.pulse] 40 (0, 0))) := by rw [← hW]; exact Kit.blk_old B19_2.out _
          have B21_3 : Hid (u21.heap[Q]? = some (.cells #[.int .i64 p.frame, .int .i64 p.line, .int .i64 p.col] 67 (0, 0))) := by rw [← hW]; exact Kit.blk_old B19_3.out _
          have B21_4 : Hid (u21.heap[V]? = some (.cells #[.int .i64 fr, .int .i64 li, .int .i64 co] 67 (0, 0))) := by rw [← hW]; exact Kit.blk_old B19_4.out _
          have B21_n : Hid (u21.heap[u19.heap.size]? = some (.cells #[.int .i64 fr, .int .i64 (li + 1), .int .i64 0] 67 (0, 0))) := by rw [← hW]; exact Kit.blk1 _ _
          have Z21 : Hid (Below w.heap.size w u21) := by rw [← hW]; exact (Z19.out).alloc (Z19.out).size _
          clear hW
          have yU := (Z19.out).size
          have m21_0 := Kit.lt B19_0.out
          have m21_1 := Kit.lt B19_1.out
          have m21_2 := Kit.lt B19_2.out
          have m21_3 := Kit.lt B19_3.out
          have m21_4 := Kit.lt B19_4.out
          generalize u19.heap.size = U at *
          have l22_0 := Kit.lt B21_0.out
          have c22_0_0 : u21.cell? ⟨w.heap.size, 0, none⟩ = some (.int .i64 s.lines) := Kit.cell B21_0.out 0 _ rfl
          have c22_0_1 : u21.cell? ⟨w.heap.size, 1, none⟩ = some (.int .i64 s.columns) := Kit.cell B21_0.out 1 _ rfl
          have c22_0_2 : u21.cell? ⟨w.heap.size, 2, none⟩ = some (.int .i64 s.top) := Kit.cell B21_0.out 2 _ rfl
          have c22_0_3 : u21.cell? ⟨w.heap.size, 3, none⟩ = some (.int .i64 s.rows) := Kit.cell B21_0.out 3 _ rfl
          have c22_0_4 : u21.cell? ⟨w.heap.size, 4, none⟩ = some (.int .i64 s.left) := Kit.cell B21_0.out 4 _ rfl
          have c22_0_5 : u21.cell? ⟨w.heap.size, 5, none⟩ = some (.int .i64 s.wide) := Kit.cell B21_0.out 5 _ rfl
          have c22_0_6 : u21.cell? ⟨w.heap.size, 6, none⟩ = some (.int .i64 s.pulse) := Kit.cell B21_0.out 6 _ rfl
          have l22_1 := Kit.lt B21_1.out
          have l22_2 := Kit.lt B21_2.out
          have l22_3 := Kit.lt B21_3.out
          have l22_4 := Kit.lt B21_4.out
          have c22_4_0 : u21.cell? ⟨V, 0, none⟩ = some (.int .i64 fr) := Kit.cell B21_4.out 0 _ rfl
          have f22_4_0 := Kit.frz B21_4.out 0
          have c22_4_1 : u21.cell? ⟨V, 1, none⟩ = some (.int .i64 li) := Kit.cell B21_4.out 1 _ rfl
          have f22_4_1 := Kit.frz B21_4.out 1
          have c22_4_2 : u21.cell? ⟨V, 2, none⟩ = some (.int .i64 co) := Kit.cell B21_4.out 2 _ rfl
          have f22_4_2 := Kit.frz B21_4.out 2
          have l22_5 := Kit.lt B21_n.out
          have c22_5_0 : u21.cell? ⟨U, 0, none⟩ = some (.int .i64 fr) := Kit.cell B21_n.out 0 _ rfl
          have c22_5_1 : u21.cell? ⟨U, 1, none⟩ = some (.int .i64 (li + 1)) := Kit.cell B21_n.out 1 _ rfl
          have c22_5_2 : u21.cell? ⟨U, 2, none⟩ = some (.int .i64 0) := Kit.cell B21_n.out 2 _ rfl
          have z22 := (Z21.out).size
          have nv : U ≠ V := by omega
          have er := eqSpt_rfl (fr) (li + 1) (0)
          go_upto_region 22 with fail
          clear l22_0 c22_0_0 c22_0_1 c22_0_2 c22_0_3 c22_0_4 c22_0_5 c22_0_6 l22_1 l22_2 l22_3 l22_4 c22_4_0 f22_4_0 c22_4_1 f22_4_1 c22_4_2 f22_4_2 l22_5 c22_5_0 c22_5_1 c22_5_2 z22 nv er
          generalize hW : (World.setCell u21 ⟨V, 2, none⟩ (.int .i64 (co + 1))) = u23
          have B23_0 : Hid (u23.heap[w.heap.size]? = some (.cells #[.int .i64 s.lines, .int .i64 s.columns, .int .i64 s.top, .int .i64 s.rows, .int .i64 s.left, .int .i64 s.wide, .int .i64 s.pulse] 40 (0, 0))) := by rw [← hW]; exact (Kit.set_far B21_0.out _ (by simp only; omega) _)
          have B23_1 : Hid (u23.heap[(w.heap.size + 1)]? = some (.cells #[.int .i64 p.frame, .int .i64 p.line, .int .i64 p.col] 67 (0, 0))) := by rw [← hW]; exact (Kit.set_far B21_1.out _ (by simp only; omega) _)
          have B23_2 : Hid (u23.heap[R]? = some (.cells #[.int .i64 s.lines, .int .i64 s.columns, .int .i64 s.top, .int .i64 s.rows, .int .i64 s.left, .int .i64 s.wide, .int .i64 s.pulse] 40 (0, 0))) := by rw [← hW]; exact (Kit.set_far B21_2.out _ (by simp only; omega) _)
          have B23_3 : Hid (u23.heap[Q]? = some (.cells #[.int .i64 p.frame, .int .i64 p.line, .int .i64 p.col] 67 (0, 0))) := by rw [← hW]; exact (Kit.set_far B21_3.out _ (by simp only; omega) _)
          have B23_4 : Hid (u23.heap[V]? = some (.cells #[.int .i64 fr, .int .i64 li, .int .i64 (co + 1)] 67 (0, 0))) := by rw [← hW]; exact (Kit.set_ B21_4.out 2 _ rfl)
          have B23_5 : Hid (u23.heap[U]? = some (.cells #[.int .i64 fr, .int .i64 (li + 1), .int .i64 0] 67 (0, 0))) := by rw [← hW]; exact (Kit.set_far B21_n.out _ (by simp only; omega) _)
          have Z23 : Hid (Below w.heap.size w u23) := by rw [← hW]; exact ((Z21.out).setCell (by simp only; omega) _)
          clear hW
          have l24_0 := Kit.lt B23_0.out
          have c24_0_0 : u23.cell? ⟨w.heap.size, 0, none⟩ = some (.int .i64 s.lines) := Kit.cell B23_0.out 0 _ rfl
          have c24_0_1 : u23.cell? ⟨w.heap.size, 1, none⟩ = some (.int .i64 s.columns) := Kit.cell B23_0.out 1 _ rfl
          have c24_0_2 : u23.cell? ⟨w.heap.size, 2, none⟩ = some (.int .i64 s.top) := Kit.cell B23_0.out 2 _ rfl
          have c24_0_3 : u23.cell? ⟨w.heap.size, 3, none⟩ = some (.int .i64 s.rows) := Kit.cell B23_0.out 3 _ rfl
          have c24_0_4 : u23.cell? ⟨w.heap.size, 4, none⟩ = some (.int .i64 s.left) := Kit.cell B23_0.out 4 _ rfl
          have c24_0_5 : u23.cell? ⟨w.heap.size, 5, none⟩ = some (.int .i64 s.wide) := Kit.cell B23_0.out 5 _ rfl
          have c24_0_6 : u23.cell? ⟨w.heap.size, 6, none⟩ = some (.int .i64 s.pulse) := Kit.cell B23_0.out 6 _ rfl
          have l24_1 := Kit.lt B23_1.out
          have l24_2 := Kit.lt B23_2.out
          have l24_3 := Kit.lt B23_3.out
          have l24_4 := Kit.lt B23_4.out
          have c24_4_0 : u23.cell? ⟨V, 0, none⟩ = some (.int .i64 fr) := Kit.cell B23_4.out 0 _ rfl
          have f24_4_0 := Kit.frz B23_4.out 0
          have c24_4_1 : u23.cell? ⟨V, 1, none⟩ = some (.int .i64 li) := Kit.cell B23_4.out 1 _ rfl
          have f24_4_1 := Kit.frz B23_4.out 1
          have c24_4_2 : u23.cell? ⟨V, 2, none⟩ = some (.int .i64 (co + 1)) := Kit.cell B23_4.out 2 _ rfl
          have f24_4_2 := Kit.frz B23_4.out 2
          have l24_5 := Kit.lt B23_5.out
          have c24_5_0 : u23.cell? ⟨U, 0, none⟩ = some (.int .i64 fr) := Kit.cell B23_5.out 0 _ rfl
          have c24_5_1 : u23.cell? ⟨U, 1, none⟩ = some (.int .i64 (li + 1)) := Kit.cell B23_5.out 1 _ rfl
          have c24_5_2 : u23.cell? ⟨U, 2, none⟩ = some (.int .i64 0) := Kit.cell B23_5.out 2 _ rfl
          have z24 := (Z23.out).size
          have nv : U ≠ V := by omega
          have er := eqSpt_rfl (fr) (li + 1) (0)
          go_upto_region 24 with fail
          clear l24_0 c24_0_0 c24_0_1 c24_0_2 c24_0_3 c24_0_4 c24_0_5 c24_0_6 l24_1 l24_2 l24_3 l24_4 c24_4_0 f24_4_0 c24_4_1 f24_4_1 c24_4_2 f24_4_2 l24_5 c24_5_0 c24_5_1 c24_5_2 z24 nv er
          generalize hW : (World.setCell (World.setCell u23 ⟨V, 2, none⟩ (.int .i64 0)) ⟨V, 1, none⟩ (.int .i64 (li + 1))) = u25
          have B25_0 : Hid (u25.heap[w.heap.size]? = some (.cells #[.int .i64 s.lines, .int .i64 s.columns, .int .i64 s.top, .int .i64 s.rows, .int .i64 s.left, .int .i64 s.wide, .int .i64 s.pulse] 40 (0, 0))) := by rw [← hW]; exact (Kit.set_far (Kit.set_far B23_0.out _ (by simp only; omega) _) _ (by simp only; omega) _)
          have B25_1 : Hid (u25.heap[(w.heap.size + 1)]? = some (.cells #[.int .i64 p.frame, .int .i64 p.line, .int .i64 p.col] 67 (0, 0))) := by rw [← hW]; exact (Kit.set_far (Kit.set_far B23_1.out _ (by simp only; omega) _) _ (by simp only; omega) _)
          have B25_2 : Hid (u25.heap[R]? = some (.cells #[.int .i64 s.lines, .int .i64 s.columns, .int .i64 s.top, .int .i64 s.rows, .int .i64 s.left, .int .i64 s.wide, .int .i64 s.pulse] 40 (0, 0))) := by rw [← hW]; exact (Kit.set_far (Kit.set_far B23_2.out _ (by simp only; omega) _) _ (by simp only; omega) _)
          have B25_3 : Hid (u25.heap[Q]? = some (.cells #[.int .i64 p.frame, .int .i64 p.line, .int .i64 p.col] 67 (0, 0))) := by rw [← hW]; exact (Kit.set_far (Kit.set_far B23_3.out _ (by simp only; omega) _) _ (by simp only; omega) _)
          have B25_4 : Hid (u25.heap[V]? = some (.cells #[.int .i64 fr, .int .i64 (li + 1), .int .i64 0] 67 (0, 0))) := by rw [← hW]; exact (Kit.set_ (Kit.set_ B23_4.out 2 _ rfl) 1 _ rfl)
          have B25_5 : Hid (u25.heap[U]? = some (.cells #[.int .i64 fr, .int .i64 (li + 1), .int .i64 0] 67 (0, 0))) := by rw [← hW]; exact (Kit.set_far (Kit.set_far B23_5.out _ (by simp only; omega) _) _ (by simp only; omega) _)
          have Z25 : Hid (Below w.heap.size w u25) := by rw [← hW]; exact (((Z23.out).setCell (by simp only; omega) _).setCell (by simp only; omega) _)
          clear hW
          have l26_0 := Kit.lt B25_0.out
          have c26_0_0 : u25.cell? ⟨w.heap.size, 0, none⟩ = some (.int .i64 s.lines) := Kit.cell B25_0.out 0 _ rfl
          have c26_0_1 : u25.cell? ⟨w.heap.size, 1, none⟩ = some (.int .i64 s.columns) := Kit.cell B25_0.out 1 _ rfl
          have c26_0_2 : u25.cell? ⟨w.heap.size, 2, none⟩ = some (.int .i64 s.top) := Kit.cell B25_0.out 2 _ rfl
          have c26_0_3 : u25.cell? ⟨w.heap.size, 3, none⟩ = some (.int .i64 s.rows) := Kit.cell B25_0.out 3 _ rfl
          have c26_0_4 : u25.cell? ⟨w.heap.size, 4, none⟩ = some (.int .i64 s.left) := Kit.cell B25_0.out 4 _ rfl
          have c26_0_5 : u25.cell? ⟨w.heap.size, 5, none⟩ = some (.int .i64 s.wide) := Kit.cell B25_0.out 5 _ rfl
          have c26_0_6 : u25.cell? ⟨w.heap.size, 6, none⟩ = some (.int .i64 s.pulse) := Kit.cell B25_0.out 6 _ rfl
          have l26_1 := Kit.lt B25_1.out
          have l26_2 := Kit.lt B25_2.out
          have l26_3 := Kit.lt B25_3.out
          have l26_4 := Kit.lt B25_4.out
          have c26_4_0 : u25.cell? ⟨V, 0, none⟩ = some (.int .i64 fr) := Kit.cell B25_4.out 0 _ rfl
          have f26_4_0 := Kit.frz B25_4.out 0
          have c26_4_1 : u25.cell? ⟨V, 1, none⟩ = some (.int .i64 (li + 1)) := Kit.cell B25_4.out 1 _ rfl
          have f26_4_1 := Kit.frz B25_4.out 1
          have c26_4_2 : u25.cell? ⟨V, 2, none⟩ = some (.int .i64 0) := Kit.cell B25_4.out 2 _ rfl
          have f26_4_2 := Kit.frz B25_4.out 2
          have l26_5 := Kit.lt B25_5.out
          have c26_5_0 : u25.cell? ⟨U, 0, none⟩ = some (.int .i64 fr) := Kit.cell B25_5.out 0 _ rfl
          have c26_5_1 : u25.cell? ⟨U, 1, none⟩ = some (.int .i64 (li + 1)) := Kit.cell B25_5.out 1 _ rfl
          have c26_5_2 : u25.cell? ⟨U, 2, none⟩ = some (.int .i64 0) := Kit.cell B25_5.out 2 _ rfl
          have z26 := (Z25.out).size
          have nv : U ≠ V := by omega
          have er := eqSpt_rfl (fr) (li + 1) (0)
          go_wp2_with fail
          go_ret
          exact ⟨rfl, Z25.out⟩
        · have e2 : li + 1 = s.lines := by omega
          have hN : N = ⟨fr + 1, 0, 0⟩ := hn.2.2 e1 e2
          subst hN
          have HS2 := Lib.hid hS2; clear hS2 hn
          have d1 : (co + 1 == s.columns) = true := beq_iff_eq.2 e1
          have d2 : (li + 1 == s.lines) = true := beq_iff_eq.2 e2
          clear e1 e2
          have l12_0 := Kit.lt B11_0.out
          have c12_0_0 : u11.cell? ⟨w.heap.size, 0, none⟩ = some (.int .i64 s.lines) := Kit.cell B11_0.out 0 _ rfl
          have c12_0_1 : u11.cell? ⟨w.heap.size, 1, none⟩ = some (.int .i64 s.columns) := Kit.cell B11_0.out 1 _ rfl
          have c12_0_2 : u11.cell? ⟨w.heap.size, 2, none⟩ = some (.int .i64 s.top) := Kit.cell B11_0.out 2 _ rfl
          have c12_0_3 : u11.cell? ⟨w.heap.size, 3, none⟩ = some (.int .i64 s.rows) := Kit.cell B11_0.out 3 _ rfl
          have c12_0_4 : u11.cell? ⟨w.heap.size, 4, none⟩ = some (.int .i64 s.left) := Kit.cell B11_0.out 4 _ rfl
          have c12_0_5 : u11.cell? ⟨w.heap.size, 5, none⟩ = some (.int .i64 s.wide) := Kit.cell B11_0.out 5 _ rfl
          have c12_0_6 : u11.cell? ⟨w.heap.size, 6, none⟩ = some (.int .i64 s.pulse) := Kit.cell B11_0.out 6 _ rfl
          have l12_1 := Kit.lt B11_1.out
          have c12_1_0 : u11.cell? ⟨(w.heap.size + 1), 0, none⟩ = some (.int .i64 p.frame) := Kit.cell B11_1.out 0 _ rfl
          have c12_1_1 : u11.cell? ⟨(w.heap.size + 1), 1, none⟩ = some (.int .i64 p.line) := Kit.cell B11_1.out 1 _ rfl
          have c12_1_2 : u11.cell? ⟨(w.heap.size + 1), 2, none⟩ = some (.int .i64 p.col) := Kit.cell B11_1.out 2 _ rfl
          have l12_2 := Kit.lt B11_2.out
          have z12 := (Z11.out).size
          have er := eqSpt_rfl p.frame p.line p.col
          go_wp2_with fail
          clear l12_0 c12_0_0 c12_0_1 c12_0_2 c12_0_3 c12_0_4 c12_0_5 c12_0_6 l12_1 c12_1_0 c12_1_1 c12_1_2 l12_2 z12 er
          generalize hW : World.alloc u11 (.cells #[.int .i64 p.frame, .int .i64 p.line, .int .i64 p.col] 67 (0, 0)) = u13
          have B13_0 : Hid (u13.heap[w.heap.size]? = some (.cells #[.int .i64 s.lines, .int .i64 s.columns, .int .i64 s.top, .int .i64 s.rows, .int .i64 s.left, .int .i64 s.wide, .int .i64 s.pulse] 40 (0, 0))) := by rw [← hW]; exact Kit.blk_old B11_0.out _
          have B13_1 : Hid (u13.heap[(w.heap.size + 1)]? = some (.cells #[.int .i64 p.frame, .int .i64 p.line, .int .i64 p.col] 67 (0, 0))) := by rw [← hW]; exact Kit.blk_old B11_1.out _
          have B13_2 : Hid (u13.heap[R]? = some (.cells #[.int .i64 s.lines, .int .i64 s.columns, .int .i64 s.top, .int .i64 s.rows, .int .i64 s.left, .int .i64 s.wide, .int .i64 s.pulse] 40 (0, 0))) := by rw [← hW]; exact Kit.blk_old B11_2.out _
          have B13_n : Hid (u13.heap[u11.heap.size]? = some (.cells #[.int .i64 p.frame, .int .i64 p.line, .int .i64 p.col] 67 (0, 0))) := by rw [← hW]; exact Kit.blk1 _ _
          have Z13 : Hid (Below w.heap.size w u13) := by rw [← hW]; exact (Z11.out).alloc (Z11.out).size _
          clear hW
          have yQ := (Z11.out).size
          have m13_0 := Kit.lt B11_0.out
          have m13_1 := Kit.lt B11_1.out
          have m13_2 := Kit.lt B11_2.out
          generalize u11.heap.size = Q at *
          refine (HS1.out _).mono ?_; rintro e u14 ⟨rfl, hb⟩
          have B14_0 := Lib.hid (Kit.kept hb B13_0.out)
          have B14_1 := Lib.hid (Kit.kept hb B13_1.out)
          have B14_2 := Lib.hid (Kit.kept hb B13_2.out)
          have B14_3 := Lib.hid (Kit.kept hb B13_n.out)
          have Z14 := Lib.hid (Kit.then_ (Z13.out) hb); clear hb
          have l15_0 := Kit.lt B14_0.out
          have c15_0_0 : u14.cell? ⟨w.heap.size, 0, none⟩ = some (.int .i64 s.lines) := Kit.cell B14_0.out 0 _ rfl
          have c15_0_1 : u14.cell? ⟨w.heap.size, 1, none⟩ = some (.int .i64 s.columns) := Kit.cell B14_0.out 1 _ rfl
          have c15_0_2 : u14.cell? ⟨w.heap.size, 2, none⟩ = some (.int .i64 s.top) := Kit.cell B14_0.out 2 _ rfl
          have c15_0_3 : u14.cell? ⟨w.heap.size, 3, none⟩ = some (.int .i64 s.rows) := Kit.cell B14_0.out 3 _ rfl
          have c15_0_4 : u14.cell? ⟨w.heap.size, 4, none⟩ = some (.int .i64 s.left) := Kit.cell B14_0.out 4 _ rfl
          have c15_0_5 : u14.cell? ⟨w.heap.size, 5, none⟩ = some (.int .i64 s.wide) := Kit.cell B14_0.out 5 _ rfl
          have c15_0_6 : u14.cell? ⟨w.heap.size, 6, none⟩ = some (.int .i64 s.pulse) := Kit.cell B14_0.out 6 _ rfl
          have l15_1 := Kit.lt B14_1.out
          have l15_2 := Kit.lt B14_2.out
          have l15_3 := Kit.lt B14_3.out
          have z15 := (Z14.out).size
          go_wp2_with fail
          clear l15_0 c15_0_0 c15_0_1 c15_0_2 c15_0_3 c15_0_4 c15_0_5 c15_0_6 l15_1 l15_2 l15_3 z15
          generalize hW : World.alloc u14 (.cells #[.int .i64 fr, .int .i64 li, .int .i64 co] 67 (0, 0)) = u16
          have B16_0 : Hid (u16.heap[w.heap.size]? = some (.cells #[.int .i64 s.lines, .int .i64 s.columns, .int .i64 s.top, .int .i64 s.rows, .int .i64 s.left, .int .i64 s.wide, .int .i64 s.pulse] 40 (0, 0))) := by rw [← hW]; exact Kit.blk_old B14_0.out _
          have B16_1 : Hid (u16.heap[(w.heap.size + 1)]? = some (.cells #[.int .i64 p.frame, .int .i64 p.line, .int .i64 p.col] 67 (0, 0))) := by rw [← hW]; exact Kit.blk_old B14_1.out _
          have B16_2 : Hid (u16.heap[R]? = some (.cells #[.int .i64 s.lines, .int .i64 s.columns, .int .i64 s.top, .int .i64 s.rows, .int .i64 s.left, .int .i64 s.wide, .int .i64 s.pulse] 40 (0, 0))) := by rw [← hW]; exact Kit.blk_old B14_2.out _
          have B16_3 : Hid (u16.heap[Q]? = some (.cells #[.int .i64 p.frame, .int .i64 p.line, .int .i64 p.col] 67 (0, 0))) := by rw [← hW]; exact Kit.blk_old B14_3.out _
          have B16_n : Hid (u16.heap[u14.heap.size]? = some (.cells #[.int .i64 fr, .int .i64 li, .int .i64 co] 67 (0, 0))) := by rw [← hW]; exact Kit.blk1 _ _
          have Z16 : Hid (Below w.heap.size w u16) := by rw [← hW]; exact (Z14.out).alloc (Z14.out).size _
          clear hW
          have yV := (Z14.out).size
          have m16_0 := Kit.lt B14_0.out
          have m16_1 := Kit.lt B14_1.out
          have m16_2 := Kit.lt B14_2.out
          have m16_3 := Kit.lt B14_3.out
          generalize u14.heap.size = V at *
          refine (HT2.out _).mono ?_; rintro e u17 ⟨rfl, hb⟩
          have B17_0 := Lib.hid (Kit.kept hb B16_0.out)
          have B17_1 := Lib.hid (Kit.kept hb B16_1.out)
          have B17_2 := Lib.hid (Kit.kept hb B16_2.out)
          have B17_3 := Lib.hid (Kit.kept hb B16_3.out)
          have B17_4 := Lib.hid (Kit.kept hb B16_n.out)
          have Z17 := Lib.hid (Kit.then_ (Z16.out) hb); clear hb
          have l18_0 := Kit.lt B17_0.out
          have c18_0_0 : u17.cell? ⟨w.heap.size, 0, none⟩ = some (.int .i64 s.lines) := Kit.cell B17_0.out 0 _ rfl
          have c18_0_1 : u17.cell? ⟨w.heap.size, 1, none⟩ = some (.int .i64 s.columns) := Kit.cell B17_0.out 1 _ rfl
          have c18_0_2 : u17.cell? ⟨w.heap.size, 2, none⟩ = some (.int .i64 s.top) := Kit.cell B17_0.out 2 _ rfl
          have c18_0_3 : u17.cell? ⟨w.heap.size, 3, none⟩ = some (.int .i64 s.rows) := Kit.cell B17_0.out 3 _ rfl
          have c18_0_4 : u17.cell? ⟨w.heap.size, 4, none⟩ = some (.int .i64 s.left) := Kit.cell B17_0.out 4 _ rfl
          have c18_0_5 : u17.cell? ⟨w.heap.size, 5, none⟩ = some (.int .i64 s.wide) := Kit.cell B17_0.out 5 _ rfl
          have c18_0_6 : u17.cell? ⟨w.heap.size, 6, none⟩ = some (.int .i64 s.pulse) := Kit.cell B17_0.out 6 _ rfl
          have l18_1 := Kit.lt B17_1.out
          have l18_2 := Kit.lt B17_2.out
          have l18_3 := Kit.lt B17_3.out
          have l18_4 := Kit.lt B17_4.out
          have z18 := (Z17.out).size
          go_wp2_with fail
          clear l18_0 c18_0_0 c18_0_1 c18_0_2 c18_0_3 c18_0_4 c18_0_5 c18_0_6 l18_1 l18_2 l18_3 l18_4 z18
          refine (HS2.out _).mono ?_; rintro e u19 ⟨rfl, hb⟩
          have B19_0 := Lib.hid (Kit.kept hb B17_0.out)
          have B19_1 := Lib.hid (Kit.kept hb B17_1.out)
          have B19_2 := Lib.hid (Kit.kept hb B17_2.out)
          have B19_3 := Lib.hid (Kit.kept hb B17_3.out)
          have B19_4 := Lib.hid (Kit.kept hb B17_4.out)
          have Z19 := Lib.hid (Kit.then_ (Z17.out) hb); clear hb
          have l20_0 := Kit.lt B19_0.out
          have c20_0_0 : u19.cell? ⟨w.heap.size, 0, none⟩ = some (.int .i64 s.lines) := Kit.cell B19_0.out 0 _ rfl
          have c20_0_1 : u19.cell? ⟨w.heap.size, 1, none⟩ = some (.int .i64 s.columns) := Kit.cell B19_0.out 1 _ rfl
          have c20_0_2 : u19.cell? ⟨w.heap.size, 2, none⟩ = some (.int .i64 s.top) := Kit.cell B19_0.out 2 _ rfl
          have c20_0_3 : u19.cell? ⟨w.heap.size, 3, none⟩ = some (.int .i64 s.rows) := Kit.cell B19_0.out 3 _ rfl
          have c20_0_4 : u19.cell? ⟨w.heap.size, 4, none⟩ = some (.int .i64 s.left) := Kit.cell B19_0.out 4 _ rfl
          have c20_0_5 : u19.cell? ⟨w.heap.size, 5, none⟩ = some (.int .i64 s.wide) := Kit.cell B19_0.out 5 _ rfl
          have c20_0_6 : u19.cell? ⟨w.heap.size, 6, none⟩ = some (.int .i64 s.pulse) := Kit.cell B19_0.out 6 _ rfl
          have l20_1 := Kit.lt B19_1.out
          have l20_2 := Kit.lt B19_2.out
          have l20_3 := Kit.lt B19_3.out
          have l20_4 := Kit.lt B19_4.out
          have c20_4_0 : u19.cell? ⟨V, 0, none⟩ = some (.int .i64 fr) := Kit.cell B19_4.out 0 _ rfl
          have f20_4_0 := Kit.frz B19_4.out 0
          have c20_4_1 : u19.cell? ⟨V, 1, none⟩ = some (.int .i64 li) := Kit.cell B19_4.out 1 _ rfl
          have f20_4_1 := Kit.frz B19_4.out 1
          have c20_4_2 : u19.cell? ⟨V, 2, none⟩ = some (.int .i64 co) := Kit.cell B19_4.out 2 _ rfl
          have f20_4_2 := Kit.frz B19_4.out 2
          have z20 := (Z19.out).size
          go_upto_region 21 with fail
          clear l20_0 c20_0_0 c20_0_1 c20_0_2 c20_0_3 c20_0_4 c20_0_5 c20_0_6 l20_1 l20_2 l20_3 l20_4 c20_4_0 f20_4_0 c20_4_1 f20_4_1 c20_4_2 f20_4_2 z20
          generalize hW : World.alloc u19 (.cells #[.int .i64 (fr + 1), .int .i64 0, .int .i64 0] 67 (0, 0)) = u21
          have B21_0 : Hid (u21.heap[w.heap.size]? = some (.cells #[.int .i64 s.lines, .int .i64 s.columns, .int .i64 s.top, .int .i64 s.rows, .int .i64 s.left, .int .i64 s.wide, .int .i64 s.pulse] 40 (0, 0))) := by rw [← hW]; exact Kit.blk_old B19_0.out _
          have B21_1 : Hid (u21.heap[(w.heap.size + 1)]? = some (.cells #[.int .i64 p.frame, .int .i64 p.line, .int .i64 p.col] 67 (0, 0))) := by rw [← hW]; exact Kit.blk_old B19_1.out _
          have B21_2 : Hid (u21.heap[R]? = some (.cells #[.int .i64 s.lines, .int .i64 s.columns, .int .i64 s.top, .int .i64 s.rows, .int .i64 s.left, .int .i64 s.wide, .int .i64 s.pulse] 40 (0, 0))) := by rw [← hW]; exact Kit.blk_old B19_2.out _
          have B21_3 : Hid (u21.heap[Q]? = some (.cells #[.int .i64 p.frame, .int .i64 p.line, .int .i64 p.col] 67 (0, 0))) := by rw [← hW]; exact Kit.blk_old B19_3.out _
          have B21_4 : Hid (u21.heap[V]? = some (.cells #[.int .i64 fr, .int .i64 li, .int .i64 co] 67 (0, 0))) := by rw [← hW]; exact Kit.blk_old B19_4.out _
          have B21_n : Hid (u21.heap[u19.heap.size]? = some (.cells #[.int .i64 (fr + 1), .int .i64 0, .int .i64 0] 67 (0, 0))) := by rw [← hW]; exact Kit.blk1 _ _
          have Z21 : Hid (Below w.heap.size w u21) := by rw [← hW]; exact (Z19.out).alloc (Z19.out).size _
          clear hW
          have yU := (Z19.out).size
          have m21_0 := Kit.lt B19_0.out
          have m21_1 := Kit.lt B19_1.out
          have m21_2 := Kit.lt B19_2.out
          have m21_3 := Kit.lt B19_3.out
          have m21_4 := Kit.lt B19_4.out
          generalize u19.heap.size = U at *
          have l22_0 := Kit.lt B21_0.out
          have c22_0_0 : u21.cell? ⟨w.heap.size, 0, none⟩ = some (.int .i64 s.lines) := Kit.cell B21_0.out 0 _ rfl
          have c22_0_1 : u21.cell? ⟨w.heap.size, 1, none⟩ = some (.int .i64 s.columns) := Kit.cell B21_0.out 1 _ rfl
          have c22_0_2 : u21.cell? ⟨w.heap.size, 2, none⟩ = some (.int .i64 s.top) := Kit.cell B21_0.out 2 _ rfl
          have c22_0_3 : u21.cell? ⟨w.heap.size, 3, none⟩ = some (.int .i64 s.rows) := Kit.cell B21_0.out 3 _ rfl
          have c22_0_4 : u21.cell? ⟨w.heap.size, 4, none⟩ = some (.int .i64 s.left) := Kit.cell B21_0.out 4 _ rfl
          have c22_0_5 : u21.cell? ⟨w.heap.size, 5, none⟩ = some (.int .i64 s.wide) := Kit.cell B21_0.out 5 _ rfl
          have c22_0_6 : u21.cell? ⟨w.heap.size, 6, none⟩ = some (.int .i64 s.pulse) := Kit.cell B21_0.out 6 _ rfl
          have l22_1 := Kit.lt B21_1.out
          have l22_2 := Kit.lt B21_2.out
          have l22_3 := Kit.lt B21_3.out
          have l22_4 := Kit.lt B21_4.out
          have c22_4_0 : u21.cell? ⟨V, 0, none⟩ = some (.int .i64 fr) := Kit.cell B21_4.out 0 _ rfl
          have f22_4_0 := Kit.frz B21_4.out 0
          have c22_4_1 : u21.cell? ⟨V, 1, none⟩ = some (.int .i64 li) := Kit.cell B21_4.out 1 _ rfl
          have f22_4_1 := Kit.frz B21_4.out 1
          have c22_4_2 : u21.cell? ⟨V, 2, none⟩ = some (.int .i64 co) := Kit.cell B21_4.out 2 _ rfl
          have f22_4_2 := Kit.frz B21_4.out 2
          have l22_5 := Kit.lt B21_n.out
          have c22_5_0 : u21.cell? ⟨U, 0, none⟩ = some (.int .i64 (fr + 1)) := Kit.cell B21_n.out 0 _ rfl
          have c22_5_1 : u21.cell? ⟨U, 1, none⟩ = some (.int .i64 0) := Kit.cell B21_n.out 1 _ rfl
          have c22_5_2 : u21.cell? ⟨U, 2, none⟩ = some (.int .i64 0) := Kit.cell B21_n.out 2 _ rfl
          have z22 := (Z21.out).size
          have nv : U ≠ V := by omega
          have er := eqSpt_rfl (fr + 1) (0) (0)
          go_upto_region 22 with fail
          clear l22_0 c22_0_0 c22_0_1 c22_0_2 c22_0_3 c22_0_4 c22_0_5 c22_0_6 l22_1 l22_2 l22_3 l22_4 c22_4_0 f22_4_0 c22_4_1 f22_4_1 c22_4_2 f22_4_2 l22_5 c22_5_0 c22_5_1 c22_5_2 z22 nv er
          generalize hW : (World.setCell u21 ⟨V, 2, none⟩ (.int .i64 (co + 1))) = u23
          have B23_0 : Hid (u23.heap[w.heap.size]? = some (.cells #[.int .i64 s.lines, .int .i64 s.columns, .int .i64 s.top, .int .i64 s.rows, .int .i64 s.left, .int .i64 s.wide, .int .i64 s.pulse] 40 (0, 0))) := by rw [← hW]; exact (Kit.set_far B21_0.out _ (by simp only; omega) _)
          have B23_1 : Hid (u23.heap[(w.heap.size + 1)]? = some (.cells #[.int .i64 p.frame, .int .i64 p.line, .int .i64 p.col] 67 (0, 0))) := by rw [← hW]; exact (Kit.set_far B21_1.out _ (by simp only; omega) _)
          have B23_2 : Hid (u23.heap[R]? = some (.cells #[.int .i64 s.lines, .int .i64 s.columns, .int .i64 s.top, .int .i64 s.rows, .int .i64 s.left, .int .i64 s.wide, .int .i64 s.pulse] 40 (0, 0))) := by rw [← hW]; exact (Kit.set_far B21_2.out _ (by simp only; omega) _)
          have B23_3 : Hid (u23.heap[Q]? = some (.cells #[.int .i64 p.frame, .int .i64 p.line, .int .i64 p.col] 67 (0, 0))) := by rw [← hW]; exact (Kit.set_far B21_3.out _ (by simp only; omega) _)
          have B23_4 : Hid (u23.heap[V]? = some (.cells #[.int .i64 fr, .int .i64 li, .int .i64 (co + 1)] 67 (0, 0))) := by rw [← hW]; exact (Kit.set_ B21_4.out 2 _ rfl)
          have B23_5 : Hid (u23.heap[U]? = some (.cells #[.int .i64 (fr + 1), .int .i64 0, .int .i64 0] 67 (0, 0))) := by rw [← hW]; exact (Kit.set_far B21_n.out _ (by simp only; omega) _)
          have Z23 : Hid (Below w.heap.size w u23) := by rw [← hW]; exact ((Z21.out).setCell (by simp only; omega) _)
          clear hW
          have l24_0 := Kit.lt B23_0.out
          have c24_0_0 : u23.cell? ⟨w.heap.size, 0, none⟩ = some (.int .i64 s.lines) := Kit.cell B23_0.out 0 _ rfl
          have c24_0_1 : u23.cell? ⟨w.heap.size, 1, none⟩ = some (.int .i64 s.columns) := Kit.cell B23_0.out 1 _ rfl
          have c24_0_2 : u23.cell? ⟨w.heap.size, 2, none⟩ = some (.int .i64 s.top) := Kit.cell B23_0.out 2 _ rfl
          have c24_0_3 : u23.cell? ⟨w.heap.size, 3, none⟩ = some (.int .i64 s.rows) := Kit.cell B23_0.out 3 _ rfl
          have c24_0_4 : u23.cell? ⟨w.heap.size, 4, none⟩ = some (.int .i64 s.left) := Kit.cell B23_0.out 4 _ rfl
          have c24_0_5 : u23.cell? ⟨w.heap.size, 5, none⟩ = some (.int .i64 s.wide) := Kit.cell B23_0.out 5 _ rfl
          have c24_0_6 : u23.cell? ⟨w.heap.size, 6, none⟩ = some (.int .i64 s.pulse) := Kit.cell B23_0.out 6 _ rfl
          have l24_1 := Kit.lt B23_1.out
          have l24_2 := Kit.lt B23_2.out
          have l24_3 := Kit.lt B23_3.out
          have l24_4 := Kit.lt B23_4.out
          have c24_4_0 : u23.cell? ⟨V, 0, none⟩ = some (.int .i64 fr) := Kit.cell B23_4.out 0 _ rfl
          have f24_4_0 := Kit.frz B23_4.out 0
          have c24_4_1 : u23.cell? ⟨V, 1, none⟩ = some (.int .i64 li) := Kit.cell B23_4.out 1 _ rfl
          have f24_4_1 := Kit.frz B23_4.out 1
          have c24_4_2 : u23.cell? ⟨V, 2, none⟩ = some (.int .i64 (co + 1)) := Kit.cell B23_4.out 2 _ rfl
          have f24_4_2 := Kit.frz B23_4.out 2
          have l24_5 := Kit.lt B23_5.out
          have c24_5_0 : u23.cell? ⟨U, 0, none⟩ = some (.int .i64 (fr + 1)) := Kit.cell B23_5.out 0 _ rfl
          have c24_5_1 : u23.cell? ⟨U, 1, none⟩ = some (.int .i64 0) := Kit.cell B23_5.out 1 _ rfl
          have c24_5_2 : u23.cell? ⟨U, 2, none⟩ = some (.int .i64 0) := Kit.cell B23_5.out 2 _ rfl
          have z24 := (Z23.out).size
          have nv : U ≠ V := by omega
          have er := eqSpt_rfl (fr + 1) (0) (0)
          go_upto_region 24 with fail
          clear l24_0 c24_0_0 c24_0_1 c24_0_2 c24_0_3 c24_0_4 c24_0_5 c24_0_6 l24_1 l24_2 l24_3 l24_4 c24_4_0 f24_4_0 c24_4_1 f24_4_1 c24_4_2 f24_4_2 l24_5 c24_5_0 c24_5_1 c24_5_2 z24 nv er
          generalize hW : (World.setCell (World.setCell u23 ⟨V, 2, none⟩ (.int .i64 0)) ⟨V, 1, none⟩ (.int .i64 (li + 1))) = u25
          have B25_0 : Hid (u25.heap[w.heap.size]? = some (.cells #[.int .i64 s.lines, .int .i64 s.columns, .int .i64 s.top, .int .i64 s.rows, .int .i64 s.left, .int .i64 s.wide, .int .i64 s.pulse] 40 (0, 0))) := by rw [← hW]; exact (Kit.set_far (Kit.set_far B23_0.out _ (by simp only; omega) _) _ (by simp only; omega) _)
          have B25_1 : Hid (u25.heap[(w.heap.size + 1)]? = some (.cells #[.int .i64 p.frame, .int .i64 p.line, .int .i64 p.col] 67 (0, 0))) := by rw [← hW]; exact (Kit.set_far (Kit.set_far B23_1.out _ (by simp only; omega) _) _ (by simp only; omega) _)
          have B25_2 : Hid (u25.heap[R]? = some (.cells #[.int .i64 s.lines, .int .i64 s.columns, .int .i64 s.top, .int .i64 s.rows, .int .i64 s.left, .int .i64 s.wide, .int .i64 s.pulse] 40 (0, 0))) := by rw [← hW]; exact (Kit.set_far (Kit.set_far B23_2.out _ (by simp only; omega) _) _ (by simp only; omega) _)
          have B25_3 : Hid (u25.heap[Q]? = some (.cells #[.int .i64 p.frame, .int .i64 p.line, .int .i64 p.col] 67 (0, 0))) := by rw [← hW]; exact (Kit.set_far (Kit.set_far B23_3.out _ (by simp only; omega) _) _ (by simp only; omega) _)
          have B25_4 : Hid (u25.heap[V]? = some (.cells #[.int .i64 fr, .int .i64 (li + 1), .int .i64 0] 67 (0, 0))) := by rw [← hW]; exact (Kit.set_ (Kit.set_ B23_4.out 2 _ rfl) 1 _ rfl)
          have B25_5 : Hid (u25.heap[U]? = some (.cells #[.int .i64 (fr + 1), .int .i64 0, .int .i64 0] 67 (0, 0))) := by rw [← hW]; exact (Kit.set_far (Kit.set_far B23_5.out _ (by simp only; omega) _) _ (by simp only; omega) _)
          have Z25 : Hid (Below w.heap.size w u25) := by rw [← hW]; exact (((Z23.out).setCell (by simp only; omega) _).setCell (by simp only; omega) _)
          clear hW
          have l26_0 := Kit.lt B25_0.out
          have c26_0_0 : u25.cell? ⟨w.heap.size, 0, none⟩ = some (.int .i64 s.lines) := Kit.cell B25_0.out 0 _ rfl
          have c26_0_1 : u25.cell? ⟨w.heap.size, 1, none⟩ = some (.int .i64 s.columns) := Kit.cell B25_0.out 1 _ rfl
          have c26_0_2 : u25.cell? ⟨w.heap.size, 2, none⟩ = some (.int .i64 s.top) := Kit.cell B25_0.out 2 _ rfl
          have c26_0_3 : u25.cell? ⟨w.heap.size, 3, none⟩ = some (.int .i64 s.rows) := Kit.cell B25_0.out 3 _ rfl
          have c26_0_4 : u25.cell? ⟨w.heap.size, 4, none⟩ = some (.int .i64 s.left) := Kit.cell B25_0.out 4 _ rfl
          have c26_0_5 : u25.cell? ⟨w.heap.size, 5, none⟩ = some (.int .i64 s.wide) := Kit.cell B25_0.out 5 _ rfl
          have c26_0_6 : u25.cell? ⟨w.heap.size, 6, none⟩ = some (.int .i64 s.pulse) := Kit.cell B25_0.out 6 _ rfl
          have l26_1 := Kit.lt B25_1.out
          have l26_2 := Kit.lt B25_2.out
          have l26_3 := Kit.lt B25_3.out
          have l26_4 := Kit.lt B25_4.out
          have c26_4_0 : u25.cell? ⟨V, 0, none⟩ = some (.int .i64 fr) := Kit.cell B25_4.out 0 _ rfl
          have f26_4_0 := Kit.frz B25_4.out 0
          have c26_4_1 : u25.cell? ⟨V, 1, none⟩ = some (.int .i64 (li + 1)) := Kit.cell B25_4.out 1 _ rfl
          have f26_4_1 := Kit.frz B25_4.out 1
          have c26_4_2 : u25.cell? ⟨V, 2, none⟩ = some (.int .i64 0) := Kit.cell B25_4.out 2 _ rfl
          have f26_4_2 := Kit.frz B25_4.out 2
          have l26_5 := Kit.lt B25_5.out
          have c26_5_0 : u25.cell? ⟨U, 0, none⟩ = some (.int .i64 (fr + 1)) := Kit.cell B25_5.out 0 _ rfl
          have c26_5_1 : u25.cell? ⟨U, 1, none⟩ = some (.int .i64 0) := Kit.cell B25_5.out 1 _ rfl
          have c26_5_2 : u25.cell? ⟨U, 2, none⟩ = some (.int .i64 0) := Kit.cell B25_5.out 2 _ rfl
          have z26 := (Z25.out).size
          have nv : U ≠ V := by omega
          have er := eqSpt_rfl (fr + 1) (0) (0)
          go_upto_region 26 with fail
          clear l26_0 c26_0_0 c26_0_1 c26_0_2 c26_0_3 c26_0_4 c26_0_5 c26_0_6 l26_1 l26_2 l26_3 l26_4 c26_4_0 f26_4_0 c26_4_1 f26_4_1 c26_4_2 f26_4_2 l26_5 c26_5_0 c26_5_1 c26_5_2 z26 nv er
          generalize hW : (World.setCell (World.setCell u25 ⟨V, 1, none⟩ (.int .i64 0)) ⟨V, 0, none⟩ (.int .i64 (fr + 1))) = u27
          have B27_0 : Hid (u27.heap[w.heap.size]? = some (.cells #[.int .i64 s.lines, .int .i64 s.columns, .int .i64 s.top, .int .i64 s.rows, .int .i64 s.left, .int .i64 s.wide, .int .i64 s.pulse] 40 (0, 0))) := by rw [← hW]; exact (Kit.set_far (Kit.set_far B25_0.out _ (by simp only; omega) _) _ (by simp only; omega) _)
          have B27_1 : Hid (u27.heap[(w.heap.size + 1)]? = some (.cells #[.int .i64 p.frame, .int .i64 p.line, .int .i64 p.col] 67 (0, 0))) := by rw [← hW]; exact (Kit.set_far (Kit.set_far B25_1.out _ (by simp only; omega) _) _ (by simp only; omega) _)
          have B27_2 : Hid (u27.heap[R]? = some (.cells #[.int .i64 s.lines, .int .i64 s.columns, .int .i64 s.top, .int .i64 s.rows, .int .i64 s.left, .int .i64 s.wide, .int .i64 s.pulse] 40 (0, 0))) := by rw [← hW]; exact (Kit.set_far (Kit.set_far B25_2.out _ (by simp only; omega) _) _ (by simp only; omega) _)
          have B27_3 : Hid (u27.heap[Q]? = some (.cells #[.int .i64 p.frame, .int .i64 p.line, .int .i64 p.col] 67 (0, 0))) := by rw [← hW]; exact (Kit.set_far (Kit.set_far B25_3.out _ (by simp only; omega) _) _ (by simp only; omega) _)
          have B27_4 : Hid (u27.heap[V]? = some (.cells #[.int .i64 (fr + 1), .int .i64 0, .int .i64 0] 67 (0, 0))) := by rw [← hW]; exact (Kit.set_ (Kit.set_ B25_4.out 1 _ rfl) 0 _ rfl)
          have B27_5 : Hid (u27.heap[U]? = some (.cells #[.int .i64 (fr + 1), .int .i64 0, .int .i64 0] 67 (0, 0))) := by rw [← hW]; exact (Kit.set_far (Kit.set_far B25_5.out _ (by simp only; omega) _) _ (by simp only; omega) _)
          have Z27 : Hid (Below w.heap.size w u27) := by rw [← hW]; exact (((Z25.out).setCell (by simp only; omega) _).setCell (by simp only; omega) _)
          clear hW
          have l28_0 := Kit.lt B27_0.out
          have c28_0_0 : u27.cell? ⟨w.heap.size, 0, none⟩ = some (.int .i64 s.lines) := Kit.cell B27_0.out 0 _ rfl
          have c28_0_1 : u27.cell? ⟨w.heap.size, 1, none⟩ = some (.int .i64 s.columns) := Kit.cell B27_0.out 1 _ rfl
          have c28_0_2 : u27.cell? ⟨w.heap.size, 2, none⟩ = some (.int .i64 s.top) := Kit.cell B27_0.out 2 _ rfl
          have c28_0_3 : u27.cell? ⟨w.heap.size, 3, none⟩ = some (.int .i64 s.rows) := Kit.cell B27_0.out 3 _ rfl
          have c28_0_4 : u27.cell? ⟨w.heap.size, 4, none⟩ = some (.int .i64 s.left) := Kit.cell B27_0.out 4 _ rfl
          have c28_0_5 : u27.cell? ⟨w.heap.size, 5, none⟩ = some (.int .i64 s.wide) := Kit.cell B27_0.out 5 _ rfl
          have c28_0_6 : u27.cell? ⟨w.heap.size, 6, none⟩ = some (.int .i64 s.pulse) := Kit.cell B27_0.out 6 _ rfl
          have l28_1 := Kit.lt B27_1.out
          have l28_2 := Kit.lt B27_2.out
          have l28_3 := Kit.lt B27_3.out
          have l28_4 := Kit.lt B27_4.out
          have c28_4_0 : u27.cell? ⟨V, 0, none⟩ = some (.int .i64 (fr + 1)) := Kit.cell B27_4.out 0 _ rfl
          have f28_4_0 := Kit.frz B27_4.out 0
          have c28_4_1 : u27.cell? ⟨V, 1, none⟩ = some (.int .i64 0) := Kit.cell B27_4.out 1 _ rfl
          have f28_4_1 := Kit.frz B27_4.out 1
          have c28_4_2 : u27.cell? ⟨V, 2, none⟩ = some (.int .i64 0) := Kit.cell B27_4.out 2 _ rfl
          have f28_4_2 := Kit.frz B27_4.out 2
          have l28_5 := Kit.lt B27_5.out
          have c28_5_0 : u27.cell? ⟨U, 0, none⟩ = some (.int .i64 (fr + 1)) := Kit.cell B27_5.out 0 _ rfl
          have c28_5_1 : u27.cell? ⟨U, 1, none⟩ = some (.int .i64 0) := Kit.cell B27_5.out 1 _ rfl
          have c28_5_2 : u27.cell? ⟨U, 2, none⟩ = some (.int .i64 0) := Kit.cell B27_5.out 2 _ rfl
          have z28 := (Z27.out).size
          have nv : U ≠ V := by omega
          have er := eqSpt_rfl (fr + 1) (0) (0)
          go_wp2_with fail
          go_ret
          exact ⟨rfl, Z27.out⟩
  · have dt0 : decide (t < 0) = true := decide_eq_true (by omega)
    have l12_0 := Kit.lt B11_0.out
    have c12_0_0 : u11.cell? ⟨w.heap.size, 0, none⟩ = some (.int .i64 s.lines) := Kit.cell B11_0.out 0 _ rfl
    have c12_0_1 : u11.cell? ⟨w.heap.size, 1, none⟩ = some (.int .i64 s.columns) := Kit.cell B11_0.out 1 _ rfl
    have c12_0_2 : u11.cell? ⟨w.heap.size, 2, none⟩ = some (.int .i64 s.top) := Kit.cell B11_0.out 2 _ rfl
    have c12_0_3 : u11.cell? ⟨w.heap.size, 3, none⟩ = some (.int .i64 s.rows) := Kit.cell B11_0.out 3 _ rfl
    have c12_0_4 : u11.cell? ⟨w.heap.size, 4, none⟩ = some (.int .i64 s.left) := Kit.cell B11_0.out 4 _ rfl
    have c12_0_5 : u11.cell? ⟨w.heap.size, 5, none⟩ = some (.int .i64 s.wide) := Kit.cell B11_0.out 5 _ rfl
    have c12_0_6 : u11.cell? ⟨w.heap.size, 6, none⟩ = some (.int .i64 s.pulse) := Kit.cell B11_0.out 6 _ rfl
    have l12_1 := Kit.lt B11_1.out
    have c12_1_0 : u11.cell? ⟨(w.heap.size + 1), 0, none⟩ = some (.int .i64 p.frame) := Kit.cell B11_1.out 0 _ rfl
    have c12_1_1 : u11.cell? ⟨(w.heap.size + 1), 1, none⟩ = some (.int .i64 p.line) := Kit.cell B11_1.out 1 _ rfl
    have c12_1_2 : u11.cell? ⟨(w.heap.size + 1), 2, none⟩ = some (.int .i64 p.col) := Kit.cell B11_1.out 2 _ rfl
    have l12_2 := Kit.lt B11_2.out
    have z12 := (Z11.out).size
    have er := eqSpt_rfl p.frame p.line p.col
    go_wp2_with fail
    go_ret
    exact ⟨rfl, (Z11.out).alloc (by omega) _⟩

theorem back_calls (s : Scr) (t : Int) (p : Spt) (w : World) (t1 : t ≤ 9223372036854775807) :
    Calls Try.prog 6 #[s.val, .int .i64 t, p.val] w fun e w' => e = .returned (.bool true) ∧ Below w.heap.size w w' := by
  cases h : s.ok
  · exact back_no s t p w h
  · cases hb : s.timeB p
    · exact back0 s t p w h hb t1
    · exact back1 s t p w h hb t1
end Go.Proofs.YthbbbmomlehimaaR.Ts
