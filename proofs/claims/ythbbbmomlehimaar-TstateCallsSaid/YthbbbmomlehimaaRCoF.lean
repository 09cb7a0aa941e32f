import Derived.Test.YthbbbmomlehimaaRCoC
set_option linter.unusedVariables false
namespace Go.Proofs.YthbbbmomlehimaaR.Ts
open Go.RowKit
set_option maxRecDepth 100000 in
set_option maxHeartbeats 2000000 in
theorem ref02_0 (s : Scr)  (hk : s.lines < 1) (w : World) :
    Calls Try.prog 24 #[s.val] w fun e w' => e = .returned (.int .i64 2) ∧ Below w.heap.size w w' := by
  have dk : decide (s.lines < 1) = true := decide_eq_true hk
  clear hk
  unfold Scr.val Scr.vals
  go_enter Try.func24, Try.ntmps24
  go_wp2_with fail
  go_ret
  exact ⟨rfl, by go_grown⟩
set_option maxRecDepth 100000 in
set_option maxHeartbeats 2000000 in
theorem ref02_1 (s : Scr) (h0 : ¬ s.lines < 1) (hk : 400 < s.lines) (w : World) :
    Calls Try.prog 24 #[s.val] w fun e w' => e = .returned (.int .i64 2) ∧ Below w.heap.size w w' := by
  have d0 : decide (s.lines < 1) = false := decide_eq_false h0
  have dk : decide (400 < s.lines) = true := decide_eq_true hk
  have b0 : 1 ≤ s.lines := by omega
  clear h0 hk
  unfold Scr.val Scr.vals
  go_enter Try.func24, Try.ntmps24
  go_wp2_with fail
  go_ret
  exact ⟨rfl, by go_grown⟩
set_option maxRecDepth 100000 in
set_option maxHeartbeats 2000000 in
theorem ref02_2 (s : Scr) (h0 : ¬ s.lines < 1) (h1 : ¬ 400 < s.lines) (hk : s.columns < 8) (w : World) :
    Calls Try.prog 24 #[s.val] w fun e w' => e = .returned (.int .i64 2) ∧ Below w.heap.size w w' := by
  have d0 : decide (s.lines < 1) = false := decide_eq_false h0
  have d1 : decide (400 < s.lines) = false := decide_eq_false h1
  have dk : decide (s.columns < 8) = true := decide_eq_true hk
  have b0 : 1 ≤ s.lines := by omega
  have b1 : s.lines ≤ 400 := by omega
  clear h0 h1 hk
  unfold Scr.val Scr.vals
  go_enter Try.func24, Try.ntmps24
  go_wp2_with fail
  go_ret
  exact ⟨rfl, by go_grown⟩
set_option maxRecDepth 100000 in
set_option maxHeartbeats 2000000 in
theorem ref02_3 (s : Scr) (h0 : ¬ s.lines < 1) (h1 : ¬ 400 < s.lines) (h2 : ¬ s.columns < 8) (hk : 400 < s.columns) (w : World) :
    Calls Try.prog 24 #[s.val] w fun e w' => e = .returned (.int .i64 2) ∧ Below w.heap.size w w' := by
  have d0 : decide (s.lines < 1) = false := decide_eq_false h0
  have d1 : decide (400 < s.lines) = false := decide_eq_false h1
  have d2 : decide (s.columns < 8) = false := decide_eq_false h2
  have dk : decide (400 < s.columns) = true := decide_eq_true hk
  have b0 : 1 ≤ s.lines := by omega
  have b1 : s.lines ≤ 400 := by omega
  have b2 : 8 ≤ s.columns := by omega
  clear h0 h1 h2 hk
  unfold Scr.val Scr.vals
  go_enter Try.func24, Try.ntmps24
  go_wp2_with fail
  go_ret
  exact ⟨rfl, by go_grown⟩
set_option maxRecDepth 100000 in
set_option maxHeartbeats 2000000 in
theorem ref02_4 (s : Scr) (h0 : ¬ s.lines < 1) (h1 : ¬ 400 < s.lines) (h2 : ¬ s.columns < 8) (h3 : ¬ 400 < s.columns) (hk : s.columns % 4 ≠ 0) (w : World) :
    Calls Try.prog 24 #[s.val] w fun e w' => e = .returned (.int .i64 2) ∧ Below w.heap.size w w' := by
  have d0 : decide (s.lines < 1) = false := decide_eq_false h0
  have d1 : decide (400 < s.lines) = false := decide_eq_false h1
  have d2 : decide (s.columns < 8) = false := decide_eq_false h2
  have d3 : decide (400 < s.columns) = false := decide_eq_false h3
  have dk : (s.columns % 4 != 0) = true := by simpa using hk
  have b0 : 1 ≤ s.lines := by omega
  have b1 : s.lines ≤ 400 := by omega
  have b2 : 8 ≤ s.columns := by omega
  have b3 : s.columns ≤ 400 := by omega
  have n1 : 8 ≤ s.lines * s.columns := by
    have h := Int.mul_le_mul b0 b2 (by omega) (by omega); omega
  have n2 : s.lines * s.columns ≤ 160000 := by
    have h := Int.mul_le_mul b1 b3 (by omega) (by omega : (0:Int) ≤ 400); omega
  clear h0 h1 h2 h3 hk
  unfold Scr.val Scr.vals
  go_enter Try.func24, Try.ntmps24
  go_wp2_with fail
  go_ret
  exact ⟨rfl, by go_grown⟩
set_option maxRecDepth 100000 in
set_option maxHeartbeats 2000000 in
theorem ref02_5 (s : Scr) (h0 : ¬ s.lines < 1) (h1 : ¬ 400 < s.lines) (h2 : ¬ s.columns < 8) (h3 : ¬ 400 < s.columns) (h4 : ¬ s.columns % 4 ≠ 0) (hk : s.rows < 0) (w : World) :
    Calls Try.prog 24 #[s.val] w fun e w' => e = .returned (.int .i64 2) ∧ Below w.heap.size w w' := by
  have d0 : decide (s.lines < 1) = false := decide_eq_false h0
  have d1 : decide (400 < s.lines) = false := decide_eq_false h1
  have d2 : decide (s.columns < 8) = false := decide_eq_false h2
  have d3 : decide (400 < s.columns) = false := decide_eq_false h3
  have d4 : (s.columns % 4 != 0) = false := by simpa using h4
  have dk : decide (s.rows < 0) = true := decide_eq_true hk
  have b0 : 1 ≤ s.lines := by omega
  have b1 : s.lines ≤ 400 := by omega
  have b2 : 8 ≤ s.columns := by omega
  have b3 : s.columns ≤ 400 := by omega
  have n1 : 8 ≤ s.lines * s.columns := by
    have h := Int.mul_le_mul b0 b2 (by omega) (by omega); omega
  have n2 : s.lines * s.columns ≤ 160000 := by
    have h := Int.mul_le_mul b1 b3 (by omega) (by omega : (0:Int) ≤ 400); omega
  clear h0 h1 h2 h3 h4 hk
  unfold Scr.val Scr.vals
  go_enter Try.func24, Try.ntmps24
  go_wp2_with fail
  go_ret
  exact ⟨rfl, by go_grown⟩
set_option maxRecDepth 100000 in
set_option maxHeartbeats 2000000 in
theorem ref02_6 (s : Scr) (h0 : ¬ s.lines < 1) (h1 : ¬ 400 < s.lines) (h2 : ¬ s.columns < 8) (h3 : ¬ 400 < s.columns) (h4 : ¬ s.columns % 4 ≠ 0) (h5 : ¬ s.rows < 0) (hk : 192 < s.rows) (w : World) :
    Calls Try.prog 24 #[s.val] w fun e w' => e = .returned (.int .i64 2) ∧ Below w.heap.size w w' := by
  have d0 : decide (s.lines < 1) = false := decide_eq_false h0
  have d1 : decide (400 < s.lines) = false := decide_eq_false h1
  have d2 : decide (s.columns < 8) = false := decide_eq_false h2
  have d3 : decide (400 < s.columns) = false := decide_eq_false h3
  have d4 : (s.columns % 4 != 0) = false := by simpa using h4
  have d5 : decide (s.rows < 0) = false := decide_eq_false h5
  have dk : decide (192 < s.rows) = true := decide_eq_true hk
  have b0 : 1 ≤ s.lines := by omega
  have b1 : s.lines ≤ 400 := by omega
  have b2 : 8 ≤ s.columns := by omega
  have b3 : s.columns ≤ 400 := by omega
  have b5 : 0 ≤ s.rows := by omega
  have n1 : 8 ≤ s.lines * s.columns := by
    have h := Int.mul_le_mul b0 b2 (by omega) (by omega); omega
  have n2 : s.lines * s.columns ≤ 160000 := by
    have h := Int.mul_le_mul b1 b3 (by omega) (by omega : (0:Int) ≤ 400); omega
  clear h0 h1 h2 h3 h4 h5 hk
  unfold Scr.val Scr.vals
  go_enter Try.func24, Try.ntmps24
  go_wp2_with fail
  go_ret
  exact ⟨rfl, by go_grown⟩
set_option maxRecDepth 100000 in
set_option maxHeartbeats 2000000 in
theorem ref02_7 (s : Scr) (h0 : ¬ s.lines < 1) (h1 : ¬ 400 < s.lines) (h2 : ¬ s.columns < 8) (h3 : ¬ 400 < s.columns) (h4 : ¬ s.columns % 4 ≠ 0) (h5 : ¬ s.rows < 0) (h6 : ¬ 192 < s.rows) (hk : s.rows % 8 ≠ 0) (w : World) :
    Calls Try.prog 24 #[s.val] w fun e w' => e = .returned (.int .i64 2) ∧ Below w.heap.size w w' := by
  have d0 : decide (s.lines < 1) = false := decide_eq_false h0
  have d1 : decide (400 < s.lines) = false := decide_eq_false h1
  have d2 : decide (s.columns < 8) = false := decide_eq_false h2
  have d3 : decide (400 < s.columns) = false := decide_eq_false h3
  have d4 : (s.columns % 4 != 0) = false := by simpa using h4
  have d5 : decide (s.rows < 0) = false := decide_eq_false h5
  have d6 : decide (192 < s.rows) = false := decide_eq_false h6
  have dk : (s.rows % 8 != 0) = true := by simpa using hk
  have b0 : 1 ≤ s.lines := by omega
  have b1 : s.lines ≤ 400 := by omega
  have b2 : 8 ≤ s.columns := by omega
  have b3 : s.columns ≤ 400 := by omega
  have b5 : 0 ≤ s.rows := by omega
  have b6 : s.rows ≤ 192 := by omega
  have n1 : 8 ≤ s.lines * s.columns := by
    have h := Int.mul_le_mul b0 b2 (by omega) (by omega); omega
  have n2 : s.lines * s.columns ≤ 160000 := by
    have h := Int.mul_le_mul b1 b3 (by omega) (by omega : (0:Int) ≤ 400); omega
  clear h0 h1 h2 h3 h4 h5 h6 hk
  unfold Scr.val Scr.vals
  go_enter Try.func24, Try.ntmps24
  go_wp2_with fail
  go_ret
  exact ⟨rfl, by go_grown⟩
set_option maxRecDepth 100000 in
set_option maxHeartbeats 2000000 in
theorem ref02_8 (s : Scr) (h0 : ¬ s.lines < 1) (h1 : ¬ 400 < s.lines) (h2 : ¬ s.columns < 8) (h3 : ¬ 400 < s.columns) (h4 : ¬ s.columns % 4 ≠ 0) (h5 : ¬ s.rows < 0) (h6 : ¬ 192 < s.rows) (h7 : ¬ s.rows % 8 ≠ 0) (hk : s.wide < 0) (w : World) :
    Calls Try.prog 24 #[s.val] w fun e w' => e = .returned (.int .i64 2) ∧ Below w.heap.size w w' := by
  have d0 : decide (s.lines < 1) = false := decide_eq_false h0
  have d1 : decide (400 < s.lines) = false := decide_eq_false h1
  have d2 : decide (s.columns < 8) = false := decide_eq_false h2
  have d3 : decide (400 < s.columns) = false := decide_eq_false h3
  have d4 : (s.columns % 4 != 0) = false := by simpa using h4
  have d5 : decide (s.rows < 0) = false := decide_eq_false h5
  have d6 : decide (192 < s.rows) = false := decide_eq_false h6
  have d7 : (s.rows % 8 != 0) = false := by simpa using h7
  have dk : decide (s.wide < 0) = true := decide_eq_true hk
  have b0 : 1 ≤ s.lines := by omega
  have b1 : s.lines ≤ 400 := by omega
  have b2 : 8 ≤ s.columns := by omega
  have b3 : s.columns ≤ 400 := by omega
  have b5 : 0 ≤ s.rows := by omega
  have b6 : s.rows ≤ 192 := by omega
  have n1 : 8 ≤ s.lines * s.columns := by
    have h := Int.mul_le_mul b0 b2 (by omega) (by omega); omega
  have n2 : s.lines * s.columns ≤ 160000 := by
    have h := Int.mul_le_mul b1 b3 (by omega) (by omega : (0:Int) ≤ 400); omega
  clear h0 h1 h2 h3 h4 h5 h6 h7 hk
  unfold Scr.val Scr.vals
  go_enter Try.func24, Try.ntmps24
  go_wp2_with fail
  go_ret
  exact ⟨rfl, by go_grown⟩
set_option maxRecDepth 100000 in
set_option maxHeartbeats 2000000 in
theorem ref02_9 (s : Scr) (h0 : ¬ s.lines < 1) (h1 : ¬ 400 < s.lines) (h2 : ¬ s.columns < 8) (h3 : ¬ 400 < s.columns) (h4 : ¬ s.columns % 4 ≠ 0) (h5 : ¬ s.rows < 0) (h6 : ¬ 192 < s.rows) (h7 : ¬ s.rows % 8 ≠ 0) (h8 : ¬ s.wide < 0) (hk : 32 < s.wide) (w : World) :
    Calls Try.prog 24 #[s.val] w fun e w' => e = .returned (.int .i64 2) ∧ Below w.heap.size w w' := by
  have d0 : decide (s.lines < 1) = false := decide_eq_false h0
  have d1 : decide (400 < s.lines) = false := decide_eq_false h1
  have d2 : decide (s.columns < 8) = false := decide_eq_false h2
  have d3 : decide (400 < s.columns) = false := decide_eq_false h3
  have d4 : (s.columns % 4 != 0) = false := by simpa using h4
  have d5 : decide (s.rows < 0) = false := decide_eq_false h5
  have d6 : decide (192 < s.rows) = false := decide_eq_false h6
  have d7 : (s.rows % 8 != 0) = false := by simpa using h7
  have d8 : decide (s.wide < 0) = false := decide_eq_false h8
  have dk : decide (32 < s.wide) = true := decide_eq_true hk
  have b0 : 1 ≤ s.lines := by omega
  have b1 : s.lines ≤ 400 := by omega
  have b2 : 8 ≤ s.columns := by omega
  have b3 : s.columns ≤ 400 := by omega
  have b5 : 0 ≤ s.rows := by omega
  have b6 : s.rows ≤ 192 := by omega
  have b8 : 0 ≤ s.wide := by omega
  have n1 : 8 ≤ s.lines * s.columns := by
    have h := Int.mul_le_mul b0 b2 (by omega) (by omega); omega
  have n2 : s.lines * s.columns ≤ 160000 := by
    have h := Int.mul_le_mul b1 b3 (by omega) (by omega : (0:Int) ≤ 400); omega
  clear h0 h1 h2 h3 h4 h5 h6 h7 h8 hk
  unfold Scr.val Scr.vals
  go_enter Try.func24, Try.ntmps24
  go_wp2_with fail
  go_ret
  exact ⟨rfl, by go_grown⟩
set_option maxRecDepth 100000 in
set_option maxHeartbeats 2000000 in
theorem ref02_10 (s : Scr) (h0 : ¬ s.lines < 1) (h1 : ¬ 400 < s.lines) (h2 : ¬ s.columns < 8) (h3 : ¬ 400 < s.columns) (h4 : ¬ s.columns % 4 ≠ 0) (h5 : ¬ s.rows < 0) (h6 : ¬ 192 < s.rows) (h7 : ¬ s.rows % 8 ≠ 0) (h8 : ¬ s.wide < 0) (h9 : ¬ 32 < s.wide) (hk : s.wide % 2 ≠ 0) (w : World) :
    Calls Try.prog 24 #[s.val] w fun e w' => e = .returned (.int .i64 2) ∧ Below w.heap.size w w' := by
  have d0 : decide (s.lines < 1) = false := decide_eq_false h0
  have d1 : decide (400 < s.lines) = false := decide_eq_false h1
  have d2 : decide (s.columns < 8) = false := decide_eq_false h2
  have d3 : decide (400 < s.columns) = false := decide_eq_false h3
  have d4 : (s.columns % 4 != 0) = false := by simpa using h4
  have d5 : decide (s.rows < 0) = false := decide_eq_false h5
  have d6 : decide (192 < s.rows) = false := decide_eq_false h6
  have d7 : (s.rows % 8 != 0) = false := by simpa using h7
  have d8 : decide (s.wide < 0) = false := decide_eq_false h8
  have d9 : decide (32 < s.wide) = false := decide_eq_false h9
  have dk : (s.wide % 2 != 0) = true := by simpa using hk
  have b0 : 1 ≤ s.lines := by omega
  have b1 : s.lines ≤ 400 := by omega
  have b2 : 8 ≤ s.columns := by omega
  have b3 : s.columns ≤ 400 := by omega
  have b5 : 0 ≤ s.rows := by omega
  have b6 : s.rows ≤ 192 := by omega
  have b8 : 0 ≤ s.wide := by omega
  have b9 : s.wide ≤ 32 := by omega
  have n1 : 8 ≤ s.lines * s.columns := by
    have h := Int.mul_le_mul b0 b2 (by omega) (by omega); omega
  have n2 : s.lines * s.columns ≤ 160000 := by
    have h := Int.mul_le_mul b1 b3 (by omega) (by omega : (0:Int) ≤ 400); omega
  clear h0 h1 h2 h3 h4 h5 h6 h7 h8 h9 hk
  unfold Scr.val Scr.vals
  go_enter Try.func24, Try.ntmps24
  go_wp2_with fail
  go_ret
  exact ⟨rfl, by go_grown⟩
set_option maxRecDepth 100000 in
set_option maxHeartbeats 2000000 in
theorem ref02_11 (s : Scr) (h0 : ¬ s.lines < 1) (h1 : ¬ 400 < s.lines) (h2 : ¬ s.columns < 8) (h3 : ¬ 400 < s.columns) (h4 : ¬ s.columns % 4 ≠ 0) (h5 : ¬ s.rows < 0) (h6 : ¬ 192 < s.rows) (h7 : ¬ s.rows % 8 ≠ 0) (h8 : ¬ s.wide < 0) (h9 : ¬ 32 < s.wide) (h10 : ¬ s.wide % 2 ≠ 0) (hk : s.pulse < 1) (w : World) :
    Calls Try.prog 24 #[s.val] w fun e w' => e = .returned (.int .i64 2) ∧ Below w.heap.size w w' := by
  have d0 : decide (s.lines < 1) = false := decide_eq_false h0
  have d1 : decide (400 < s.lines) = false := decide_eq_false h1
  have d2 : decide (s.columns < 8) = false := decide_eq_false h2
  have d3 : decide (400 < s.columns) = false := decide_eq_false h3
  have d4 : (s.columns % 4 != 0) = false := by simpa using h4
  have d5 : decide (s.rows < 0) = false := decide_eq_false h5
  have d6 : decide (192 < s.rows) = false := decide_eq_false h6
  have d7 : (s.rows % 8 != 0) = false := by simpa using h7
  have d8 : decide (s.wide < 0) = false := decide_eq_false h8
  have d9 : decide (32 < s.wide) = false := decide_eq_false h9
  have d10 : (s.wide % 2 != 0) = false := by simpa using h10
  have dk : decide (s.pulse < 1) = true := decide_eq_true hk
  have b0 : 1 ≤ s.lines := by omega
  have b1 : s.lines ≤ 400 := by omega
  have b2 : 8 ≤ s.columns := by omega
  have b3 : s.columns ≤ 400 := by omega
  have b5 : 0 ≤ s.rows := by omega
  have b6 : s.rows ≤ 192 := by omega
  have b8 : 0 ≤ s.wide := by omega
  have b9 : s.wide ≤ 32 := by omega
  have n1 : 8 ≤ s.lines * s.columns := by
    have h := Int.mul_le_mul b0 b2 (by omega) (by omega); omega
  have n2 : s.lines * s.columns ≤ 160000 := by
    have h := Int.mul_le_mul b1 b3 (by omega) (by omega : (0:Int) ≤ 400); omega
  clear h0 h1 h2 h3 h4 h5 h6 h7 h8 h9 h10 hk
  unfold Scr.val Scr.vals
  go_enter Try.func24, Try.ntmps24
  go_wp2_with fail
  go_ret
  exact ⟨rfl, by go_grown⟩
set_option maxRecDepth 100000 in
set_option maxHeartbeats 2000000 in
theorem ref02_12 (s : Scr) (h0 : ¬ s.lines < 1) (h1 : ¬ 400 < s.lines) (h2 : ¬ s.columns < 8) (h3 : ¬ 400 < s.columns) (h4 : ¬ s.columns % 4 ≠ 0) (h5 : ¬ s.rows < 0) (h6 : ¬ 192 < s.rows) (h7 : ¬ s.rows % 8 ≠ 0) (h8 : ¬ s.wide < 0) (h9 : ¬ 32 < s.wide) (h10 : ¬ s.wide % 2 ≠ 0) (h11 : ¬ s.pulse < 1) (hk : 64 < s.pulse) (w : World) :
    Calls Try.prog 24 #[s.val] w fun e w' => e = .returned (.int .i64 2) ∧ Below w.heap.size w w' := by
  have d0 : decide (s.lines < 1) = false := decide_eq_false h0
  have d1 : decide (400 < s.lines) = false := decide_eq_false h1
  have d2 : decide (s.columns < 8) = false := decide_eq_false h2
  have d3 : decide (400 < s.columns) = false := decide_eq_false h3
  have d4 : (s.columns % 4 != 0) = false := by simpa using h4
  have d5 : decide (s.rows < 0) = false := decide_eq_false h5
  have d6 : decide (192 < s.rows) = false := decide_eq_false h6
  have d7 : (s.rows % 8 != 0) = false := by simpa using h7
  have d8 : decide (s.wide < 0) = false := decide_eq_false h8
  have d9 : decide (32 < s.wide) = false := decide_eq_false h9
  have d10 : (s.wide % 2 != 0) = false := by simpa using h10
  have d11 : decide (s.pulse < 1) = false := decide_eq_false h11
  have dk : decide (64 < s.pulse) = true := decide_eq_true hk
  have b0 : 1 ≤ s.lines := by omega
  have b1 : s.lines ≤ 400 := by omega
  have b2 : 8 ≤ s.columns := by omega
  have b3 : s.columns ≤ 400 := by omega
  have b5 : 0 ≤ s.rows := by omega
  have b6 : s.rows ≤ 192 := by omega
  have b8 : 0 ≤ s.wide := by omega
  have b9 : s.wide ≤ 32 := by omega
  have n1 : 8 ≤ s.lines * s.columns := by
    have h := Int.mul_le_mul b0 b2 (by omega) (by omega); omega
  have n2 : s.lines * s.columns ≤ 160000 := by
    have h := Int.mul_le_mul b1 b3 (by omega) (by omega : (0:Int) ≤ 400); omega
  clear h0 h1 h2 h3 h4 h5 h6 h7 h8 h9 h10 h11 hk
  unfold Scr.val Scr.vals
  go_enter Try.func24, Try.ntmps24
  go_wp2_with fail
  go_ret
  exact ⟨rfl, by go_grown⟩
set_option maxRecDepth 100000 in
set_option maxHeartbeats 2000000 in
theorem ref02_13 (s : Scr) (h0 : ¬ s.lines < 1) (h1 : ¬ 400 < s.lines) (h2 : ¬ s.columns < 8) (h3 : ¬ 400 < s.columns) (h4 : ¬ s.columns % 4 ≠ 0) (h5 : ¬ s.rows < 0) (h6 : ¬ 192 < s.rows) (h7 : ¬ s.rows % 8 ≠ 0) (h8 : ¬ s.wide < 0) (h9 : ¬ 32 < s.wide) (h10 : ¬ s.wide % 2 ≠ 0) (h11 : ¬ s.pulse < 1) (h12 : ¬ 64 < s.pulse) (hk : s.lines * s.columns < s.pulse) (w : World) :
    Calls Try.prog 24 #[s.val] w fun e w' => e = .returned (.int .i64 2) ∧ Below w.heap.size w w' := by
  have d0 : decide (s.lines < 1) = false := decide_eq_false h0
  have d1 : decide (400 < s.lines) = false := decide_eq_false h1
  have d2 : decide (s.columns < 8) = false := decide_eq_false h2
  have d3 : decide (400 < s.columns) = false := decide_eq_false h3
  have d4 : (s.columns % 4 != 0) = false := by simpa using h4
  have d5 : decide (s.rows < 0) = false := decide_eq_false h5
  have d6 : decide (192 < s.rows) = false := decide_eq_false h6
  have d7 : (s.rows % 8 != 0) = false := by simpa using h7
  have d8 : decide (s.wide < 0) = false := decide_eq_false h8
  have d9 : decide (32 < s.wide) = false := decide_eq_false h9
  have d10 : (s.wide % 2 != 0) = false := by simpa using h10
  have d11 : decide (s.pulse < 1) = false := decide_eq_false h11
  have d12 : decide (64 < s.pulse) = false := decide_eq_false h12
  have dk : decide (s.lines * s.columns < s.pulse) = true := decide_eq_true hk
  have b0 : 1 ≤ s.lines := by omega
  have b1 : s.lines ≤ 400 := by omega
  have b2 : 8 ≤ s.columns := by omega
  have b3 : s.columns ≤ 400 := by omega
  have b5 : 0 ≤ s.rows := by omega
  have b6 : s.rows ≤ 192 := by omega
  have b8 : 0 ≤ s.wide := by omega
  have b9 : s.wide ≤ 32 := by omega
  have n1 : 8 ≤ s.lines * s.columns := by
    have h := Int.mul_le_mul b0 b2 (by omega) (by omega); omega
  have n2 : s.lines * s.columns ≤ 160000 := by
    have h := Int.mul_le_mul b1 b3 (by omega) (by omega : (0:Int) ≤ 400); omega
  clear h0 h1 h2 h3 h4 h5 h6 h7 h8 h9 h10 h11 h12 hk
  unfold Scr.val Scr.vals
  go_enter Try.func24, Try.ntmps24
  go_wp2_with fail
  go_ret
  exact ⟨rfl, by go_grown⟩
set_option maxRecDepth 100000 in
set_option maxHeartbeats 2000000 in
theorem ref02_14 (s : Scr) (h0 : ¬ s.lines < 1) (h1 : ¬ 400 < s.lines) (h2 : ¬ s.columns < 8) (h3 : ¬ 400 < s.columns) (h4 : ¬ s.columns % 4 ≠ 0) (h5 : ¬ s.rows < 0) (h6 : ¬ 192 < s.rows) (h7 : ¬ s.rows % 8 ≠ 0) (h8 : ¬ s.wide < 0) (h9 : ¬ 32 < s.wide) (h10 : ¬ s.wide % 2 ≠ 0) (h11 : ¬ s.pulse < 1) (h12 : ¬ 64 < s.pulse) (h13 : ¬ s.lines * s.columns < s.pulse) (hk : s.top < 0) (w : World) :
    Calls Try.prog 24 #[s.val] w fun e w' => e = .returned (.int .i64 2) ∧ Below w.heap.size w w' := by
  have d0 : decide (s.lines < 1) = false := decide_eq_false h0
  have d1 : decide (400 < s.lines) = false := decide_eq_false h1
  have d2 : decide (s.columns < 8) = false := decide_eq_false h2
  have d3 : decide (400 < s.columns) = false := decide_eq_false h3
  have d4 : (s.columns % 4 != 0) = false := by simpa using h4
  have d5 : decide (s.rows < 0) = false := decide_eq_false h5
  have d6 : decide (192 < s.rows) = false := decide_eq_false h6
  have d7 : (s.rows % 8 != 0) = false := by simpa using h7
  have d8 : decide (s.wide < 0) = false := decide_eq_false h8
  have d9 : decide (32 < s.wide) = false := decide_eq_false h9
  have d10 : (s.wide % 2 != 0) = false := by simpa using h10
  have d11 : decide (s.pulse < 1) = false := decide_eq_false h11
  have d12 : decide (64 < s.pulse) = false := decide_eq_false h12
  have d13 : decide (s.lines * s.columns < s.pulse) = false := decide_eq_false h13
  have dk : decide (s.top < 0) = true := decide_eq_true hk
  have b0 : 1 ≤ s.lines := by omega
  have b1 : s.lines ≤ 400 := by omega
  have b2 : 8 ≤ s.columns := by omega
  have b3 : s.columns ≤ 400 := by omega
  have b5 : 0 ≤ s.rows := by omega
  have b6 : s.rows ≤ 192 := by omega
  have b8 : 0 ≤ s.wide := by omega
  have b9 : s.wide ≤ 32 := by omega
  have n1 : 8 ≤ s.lines * s.columns := by
    have h := Int.mul_le_mul b0 b2 (by omega) (by omega); omega
  have n2 : s.lines * s.columns ≤ 160000 := by
    have h := Int.mul_le_mul b1 b3 (by omega) (by omega : (0:Int) ≤ 400); omega
  clear h0 h1 h2 h3 h4 h5 h6 h7 h8 h9 h10 h11 h12 h13 hk
  unfold Scr.val Scr.vals
  go_enter Try.func24, Try.ntmps24
  go_wp2_with fail
  go_ret
  exact ⟨rfl, by go_grown⟩
set_option maxRecDepth 100000 in
set_option maxHeartbeats 2000000 in
theorem ref02_15 (s : Scr) (h0 : ¬ s.lines < 1) (h1 : ¬ 400 < s.lines) (h2 : ¬ s.columns < 8) (h3 : ¬ 400 < s.columns) (h4 : ¬ s.columns % 4 ≠ 0) (h5 : ¬ s.rows < 0) (h6 : ¬ 192 < s.rows) (h7 : ¬ s.rows % 8 ≠ 0) (h8 : ¬ s.wide < 0) (h9 : ¬ 32 < s.wide) (h10 : ¬ s.wide % 2 ≠ 0) (h11 : ¬ s.pulse < 1) (h12 : ¬ 64 < s.pulse) (h13 : ¬ s.lines * s.columns < s.pulse) (h14 : ¬ s.top < 0) (hk : s.lines - s.rows < s.top) (w : World) :
    Calls Try.prog 24 #[s.val] w fun e w' => e = .returned (.int .i64 2) ∧ Below w.heap.size w w' := by
  have d0 : decide (s.lines < 1) = false := decide_eq_false h0
  have d1 : decide (400 < s.lines) = false := decide_eq_false h1
  have d2 : decide (s.columns < 8) = false := decide_eq_false h2
  have d3 : decide (400 < s.columns) = false := decide_eq_false h3
  have d4 : (s.columns % 4 != 0) = false := by simpa using h4
  have d5 : decide (s.rows < 0) = false := decide_eq_false h5
  have d6 : decide (192 < s.rows) = false := decide_eq_false h6
  have d7 : (s.rows % 8 != 0) = false := by simpa using h7
  have d8 : decide (s.wide < 0) = false := decide_eq_false h8
  have d9 : decide (32 < s.wide) = false := decide_eq_false h9
  have d10 : (s.wide % 2 != 0) = false := by simpa using h10
  have d11 : decide (s.pulse < 1) = false := decide_eq_false h11
  have d12 : decide (64 < s.pulse) = false := decide_eq_false h12
  have d13 : decide (s.lines * s.columns < s.pulse) = false := decide_eq_false h13
  have d14 : decide (s.top < 0) = false := decide_eq_false h14
  have dk : decide (s.lines - s.rows < s.top) = true := decide_eq_true hk
  have b0 : 1 ≤ s.lines := by omega
  have b1 : s.lines ≤ 400 := by omega
  have b2 : 8 ≤ s.columns := by omega
  have b3 : s.columns ≤ 400 := by omega
  have b5 : 0 ≤ s.rows := by omega
  have b6 : s.rows ≤ 192 := by omega
  have b8 : 0 ≤ s.wide := by omega
  have b9 : s.wide ≤ 32 := by omega
  have n1 : 8 ≤ s.lines * s.columns := by
    have h := Int.mul_le_mul b0 b2 (by omega) (by omega); omega
  have n2 : s.lines * s.columns ≤ 160000 := by
    have h := Int.mul_le_mul b1 b3 (by omega) (by omega : (0:Int) ≤ 400); omega
  clear h0 h1 h2 h3 h4 h5 h6 h7 h8 h9 h10 h11 h12 h13 h14 hk
  unfold Scr.val Scr.vals
  go_enter Try.func24, Try.ntmps24
  go_wp2_with fail
  go_ret
  exact ⟨rfl, by go_grown⟩
set_option maxRecDepth 100000 in
set_option maxHeartbeats 2000000 in
theorem ref02_16 (s : Scr) (h0 : ¬ s.lines < 1) (h1 : ¬ 400 < s.lines) (h2 : ¬ s.columns < 8) (h3 : ¬ 400 < s.columns) (h4 : ¬ s.columns % 4 ≠ 0) (h5 : ¬ s.rows < 0) (h6 : ¬ 192 < s.rows) (h7 : ¬ s.rows % 8 ≠ 0) (h8 : ¬ s.wide < 0) (h9 : ¬ 32 < s.wide) (h10 : ¬ s.wide % 2 ≠ 0) (h11 : ¬ s.pulse < 1) (h12 : ¬ 64 < s.pulse) (h13 : ¬ s.lines * s.columns < s.pulse) (h14 : ¬ s.top < 0) (h15 : ¬ s.lines - s.rows < s.top) (hk : s.left < 1) (w : World) :
    Calls Try.prog 24 #[s.val] w fun e w' => e = .returned (.int .i64 2) ∧ Below w.heap.size w w' := by
  have d0 : decide (s.lines < 1) = false := decide_eq_false h0
  have d1 : decide (400 < s.lines) = false := decide_eq_false h1
  have d2 : decide (s.columns < 8) = false := decide_eq_false h2
  have d3 : decide (400 < s.columns) = false := decide_eq_false h3
  have d4 : (s.columns % 4 != 0) = false := by simpa using h4
  have d5 : decide (s.rows < 0) = false := decide_eq_false h5
  have d6 : decide (192 < s.rows) = false := decide_eq_false h6
  have d7 : (s.rows % 8 != 0) = false := by simpa using h7
  have d8 : decide (s.wide < 0) = false := decide_eq_false h8
  have d9 : decide (32 < s.wide) = false := decide_eq_false h9
  have d10 : (s.wide % 2 != 0) = false := by simpa using h10
  have d11 : decide (s.pulse < 1) = false := decide_eq_false h11
  have d12 : decide (64 < s.pulse) = false := decide_eq_false h12
  have d13 : decide (s.lines * s.columns < s.pulse) = false := decide_eq_false h13
  have d14 : decide (s.top < 0) = false := decide_eq_false h14
  have d15 : decide (s.lines - s.rows < s.top) = false := decide_eq_false h15
  have dk : decide (s.left < 1) = true := decide_eq_true hk
  have b0 : 1 ≤ s.lines := by omega
  have b1 : s.lines ≤ 400 := by omega
  have b2 : 8 ≤ s.columns := by omega
  have b3 : s.columns ≤ 400 := by omega
  have b5 : 0 ≤ s.rows := by omega
  have b6 : s.rows ≤ 192 := by omega
  have b8 : 0 ≤ s.wide := by omega
  have b9 : s.wide ≤ 32 := by omega
  have n1 : 8 ≤ s.lines * s.columns := by
    have h := Int.mul_le_mul b0 b2 (by omega) (by omega); omega
  have n2 : s.lines * s.columns ≤ 160000 := by
    have h := Int.mul_le_mul b1 b3 (by omega) (by omega : (0:Int) ≤ 400); omega
  clear h0 h1 h2 h3 h4 h5 h6 h7 h8 h9 h10 h11 h12 h13 h14 h15 hk
  unfold Scr.val Scr.vals
  go_enter Try.func24, Try.ntmps24
  go_wp2_with fail
  go_ret
  exact ⟨rfl, by go_grown⟩
set_option maxRecDepth 100000 in
set_option maxHeartbeats 2000000 in
theorem ref02_17 (s : Scr) (h0 : ¬ s.lines < 1) (h1 : ¬ 400 < s.lines) (h2 : ¬ s.columns < 8) (h3 : ¬ 400 < s.columns) (h4 : ¬ s.columns % 4 ≠ 0) (h5 : ¬ s.rows < 0) (h6 : ¬ 192 < s.rows) (h7 : ¬ s.rows % 8 ≠ 0) (h8 : ¬ s.wide < 0) (h9 : ¬ 32 < s.wide) (h10 : ¬ s.wide % 2 ≠ 0) (h11 : ¬ s.pulse < 1) (h12 : ¬ 64 < s.pulse) (h13 : ¬ s.lines * s.columns < s.pulse) (h14 : ¬ s.top < 0) (h15 : ¬ s.lines - s.rows < s.top) (h16 : ¬ s.left < 1) (hk : s.columns - 4 * s.wide < s.left) (w : World) :
    Calls Try.prog 24 #[s.val] w fun e w' => e = .returned (.int .i64 2) ∧ Below w.heap.size w w' := by
  have d0 : decide (s.lines < 1) = false := decide_eq_false h0
  have d1 : decide (400 < s.lines) = false := decide_eq_false h1
  have d2 : decide (s.columns < 8) = false := decide_eq_false h2
  have d3 : decide (400 < s.columns) = false := decide_eq_false h3
  have d4 : (s.columns % 4 != 0) = false := by simpa using h4
  have d5 : decide (s.rows < 0) = false := decide_eq_false h5
  have d6 : decide (192 < s.rows) = false := decide_eq_false h6
  have d7 : (s.rows % 8 != 0) = false := by simpa using h7
  have d8 : decide (s.wide < 0) = false := decide_eq_false h8
  have d9 : decide (32 < s.wide) = false := decide_eq_false h9
  have d10 : (s.wide % 2 != 0) = false := by simpa using h10
  have d11 : decide (s.pulse < 1) = false := decide_eq_false h11
  have d12 : decide (64 < s.pulse) = false := decide_eq_false h12
  have d13 : decide (s.lines * s.columns < s.pulse) = false := decide_eq_false h13
  have d14 : decide (s.top < 0) = false := decide_eq_false h14
  have d15 : decide (s.lines - s.rows < s.top) = false := decide_eq_false h15
  have d16 : decide (s.left < 1) = false := decide_eq_false h16
  have dk : decide (s.columns - 4 * s.wide < s.left) = true := decide_eq_true hk
  have b0 : 1 ≤ s.lines := by omega
  have b1 : s.lines ≤ 400 := by omega
  have b2 : 8 ≤ s.columns := by omega
  have b3 : s.columns ≤ 400 := by omega
  have b5 : 0 ≤ s.rows := by omega
  have b6 : s.rows ≤ 192 := by omega
  have b8 : 0 ≤ s.wide := by omega
  have b9 : s.wide ≤ 32 := by omega
  have n1 : 8 ≤ s.lines * s.columns := by
    have h := Int.mul_le_mul b0 b2 (by omega) (by omega); omega
  have n2 : s.lines * s.columns ≤ 160000 := by
    have h := Int.mul_le_mul b1 b3 (by omega) (by omega : (0:Int) ≤ 400); omega
  clear h0 h1 h2 h3 h4 h5 h6 h7 h8 h9 h10 h11 h12 h13 h14 h15 h16 hk
  unfold Scr.val Scr.vals
  go_enter Try.func24, Try.ntmps24
  go_wp2_with fail
  go_ret
  exact ⟨rfl, by go_grown⟩
set_option maxRecDepth 100000 in
set_option maxHeartbeats 2000000 in
theorem ref02_18 (s : Scr) (h0 : ¬ s.lines < 1) (h1 : ¬ 400 < s.lines) (h2 : ¬ s.columns < 8) (h3 : ¬ 400 < s.columns) (h4 : ¬ s.columns % 4 ≠ 0) (h5 : ¬ s.rows < 0) (h6 : ¬ 192 < s.rows) (h7 : ¬ s.rows % 8 ≠ 0) (h8 : ¬ s.wide < 0) (h9 : ¬ 32 < s.wide) (h10 : ¬ s.wide % 2 ≠ 0) (h11 : ¬ s.pulse < 1) (h12 : ¬ 64 < s.pulse) (h13 : ¬ s.lines * s.columns < s.pulse) (h14 : ¬ s.top < 0) (h15 : ¬ s.lines - s.rows < s.top) (h16 : ¬ s.left < 1) (h17 : ¬ s.columns - 4 * s.wide < s.left) (w : World) :
    Calls Try.prog 24 #[s.val] w fun e w' => e = .returned (.int .i64 0) ∧ Below w.heap.size w w' := by
  have d0 : decide (s.lines < 1) = false := decide_eq_false h0
  have d1 : decide (400 < s.lines) = false := decide_eq_false h1
  have d2 : decide (s.columns < 8) = false := decide_eq_false h2
  have d3 : decide (400 < s.columns) = false := decide_eq_false h3
  have d4 : (s.columns % 4 != 0) = false := by simpa using h4
  have d5 : decide (s.rows < 0) = false := decide_eq_false h5
  have d6 : decide (192 < s.rows) = false := decide_eq_false h6
  have d7 : (s.rows % 8 != 0) = false := by simpa using h7
  have d8 : decide (s.wide < 0) = false := decide_eq_false h8
  have d9 : decide (32 < s.wide) = false := decide_eq_false h9
  have d10 : (s.wide % 2 != 0) = false := by simpa using h10
  have d11 : decide (s.pulse < 1) = false := decide_eq_false h11
  have d12 : decide (64 < s.pulse) = false := decide_eq_false h12
  have d13 : decide (s.lines * s.columns < s.pulse) = false := decide_eq_false h13
  have d14 : decide (s.top < 0) = false := decide_eq_false h14
  have d15 : decide (s.lines - s.rows < s.top) = false := decide_eq_false h15
  have d16 : decide (s.left < 1) = false := decide_eq_false h16
  have d17 : decide (s.columns - 4 * s.wide < s.left) = false := decide_eq_false h17
  have b0 : 1 ≤ s.lines := by omega
  have b1 : s.lines ≤ 400 := by omega
  have b2 : 8 ≤ s.columns := by omega
  have b3 : s.columns ≤ 400 := by omega
  have b5 : 0 ≤ s.rows := by omega
  have b6 : s.rows ≤ 192 := by omega
  have b8 : 0 ≤ s.wide := by omega
  have b9 : s.wide ≤ 32 := by omega
  have n1 : 8 ≤ s.lines * s.columns := by
    have h := Int.mul_le_mul b0 b2 (by omega) (by omega); omega
  have n2 : s.lines * s.columns ≤ 160000 := by
    have h := Int.mul_le_mul b1 b3 (by omega) (by omega : (0:Int) ≤ 400); omega
  clear h0 h1 h2 h3 h4 h5 h6 h7 h8 h9 h10 h11 h12 h13 h14 h15 h16 h17
  unfold Scr.val Scr.vals
  go_enter Try.func24, Try.ntmps24
  go_wp2_with fail
  go_ret
  exact ⟨rfl, by go_grown⟩

theorem Scr.ok_of (s : Scr) (h0 : ¬ s.lines < 1) (h1 : ¬ 400 < s.lines) (h2 : ¬ s.columns < 8) (h3 : ¬ 400 < s.columns) (h4 : ¬ s.columns % 4 ≠ 0) (h5 : ¬ s.rows < 0) (h6 : ¬ 192 < s.rows) (h7 : ¬ s.rows % 8 ≠ 0) (h8 : ¬ s.wide < 0) (h9 : ¬ 32 < s.wide) (h10 : ¬ s.wide % 2 ≠ 0) (h11 : ¬ s.pulse < 1) (h12 : ¬ 64 < s.pulse) (h13 : ¬ s.lines * s.columns < s.pulse) (h14 : ¬ s.top < 0) (h15 : ¬ s.lines - s.rows < s.top) (h16 : ¬ s.left < 1) (h17 : ¬ s.columns - 4 * s.wide < s.left) : s.ok = true := by
  simp only [Scr.ok, within, Bool.and_eq_true, decide_eq_true_eq, beq_iff_eq]
  rw [Int.tmod_eq_emod_of_nonneg (by omega), Int.tmod_eq_emod_of_nonneg (by omega), Int.tmod_eq_emod_of_nonneg (by omega), Int.tmod_eq_emod_of_nonneg (by omega), Int.tmod_eq_emod_of_nonneg (by omega), Int.tmod_eq_emod_of_nonneg (by omega), Int.tmod_eq_emod_of_nonneg (by omega)]
  omega
theorem ref02_calls (s : Scr) (w : World) :
    Calls Try.prog 24 #[s.val] w fun e w' => e = .returned (.int .i64 s.code) ∧ Below w.heap.size w w' := by
  by_cases a0 : s.lines < 1
  · rw [Scr.code_no (by cases h : s.ok; rfl; exact absurd (s.fits h) (fun f => by obtain ⟨f1, f2, f3, f4, f5, f6, f7, f8, f9, f10, f11, f12, f13, f14, f15, f16, f17, f18, f19, f20, f21, f22⟩ := f; omega))]
    exact ref02_0 s  a0 w
  by_cases a1 : 400 < s.lines
  · rw [Scr.code_no (by cases h : s.ok; rfl; exact absurd (s.fits h) (fun f => by obtain ⟨f1, f2, f3, f4, f5, f6, f7, f8, f9, f10, f11, f12, f13, f14, f15, f16, f17, f18, f19, f20, f21, f22⟩ := f; omega))]
    exact ref02_1 s a0 a1 w
  by_cases a2 : s.columns < 8
  · rw [Scr.code_no (by cases h : s.ok; rfl; exact absurd (s.fits h) (fun f => by obtain ⟨f1, f2, f3, f4, f5, f6, f7, f8, f9, f10, f11, f12, f13, f14, f15, f16, f17, f18, f19, f20, f21, f22⟩ := f; omega))]
    exact ref02_2 s a0 a1 a2 w
  by_cases a3 : 400 < s.columns
  · rw [Scr.code_no (by cases h : s.ok; rfl; exact absurd (s.fits h) (fun f => by obtain ⟨f1, f2, f3, f4, f5, f6, f7, f8, f9, f10, f11, f12, f13, f14, f15, f16, f17, f18, f19, f20, f21, f22⟩ := f; omega))]
    exact ref02_3 s a0 a1 a2 a3 w
  by_cases a4 : s.columns % 4 ≠ 0
  · rw [Scr.code_no (by cases h : s.ok; rfl; exact absurd (s.fits h) (fun f => by obtain ⟨f1, f2, f3, f4, f5, f6, f7, f8, f9, f10, f11, f12, f13, f14, f15, f16, f17, f18, f19, f20, f21, f22⟩ := f; omega))]
    exact ref02_4 s a0 a1 a2 a3 a4 w
  by_cases a5 : s.rows < 0
  · rw [Scr.code_no (by cases h : s.ok; rfl; exact absurd (s.fits h) (fun f => by obtain ⟨f1, f2, f3, f4, f5, f6, f7, f8, f9, f10, f11, f12, f13, f14, f15, f16, f17, f18, f19, f20, f21, f22⟩ := f; omega))]
    exact ref02_5 s a0 a1 a2 a3 a4 a5 w
  by_cases a6 : 192 < s.rows
  · rw [Scr.code_no (by cases h : s.ok; rfl; exact absurd (s.fits h) (fun f => by obtain ⟨f1, f2, f3, f4, f5, f6, f7, f8, f9, f10, f11, f12, f13, f14, f15, f16, f17, f18, f19, f20, f21, f22⟩ := f; omega))]
    exact ref02_6 s a0 a1 a2 a3 a4 a5 a6 w
  by_cases a7 : s.rows % 8 ≠ 0
  · rw [Scr.code_no (by cases h : s.ok; rfl; exact absurd (s.fits h) (fun f => by obtain ⟨f1, f2, f3, f4, f5, f6, f7, f8, f9, f10, f11, f12, f13, f14, f15, f16, f17, f18, f19, f20, f21, f22⟩ := f; omega))]
    exact ref02_7 s a0 a1 a2 a3 a4 a5 a6 a7 w
  by_cases a8 : s.wide < 0
  · rw [Scr.code_no (by cases h : s.ok; rfl; exact absurd (s.fits h) (fun f => by obtain ⟨f1, f2, f3, f4, f5, f6, f7, f8, f9, f10, f11, f12, f13, f14, f15, f16, f17, f18, f19, f20, f21, f22⟩ := f; omega))]
    exact ref02_8 s a0 a1 a2 a3 a4 a5 a6 a7 a8 w
  by_cases a9 : 32 < s.wide
  · rw [Scr.code_no (by cases h : s.ok; rfl; exact absurd (s.fits h) (fun f => by obtain ⟨f1, f2, f3, f4, f5, f6, f7, f8, f9, f10, f11, f12, f13, f14, f15, f16, f17, f18, f19, f20, f21, f22⟩ := f; omega))]
    exact ref02_9 s a0 a1 a2 a3 a4 a5 a6 a7 a8 a9 w
  by_cases a10 : s.wide % 2 ≠ 0
  · rw [Scr.code_no (by cases h : s.ok; rfl; exact absurd (s.fits h) (fun f => by obtain ⟨f1, f2, f3, f4, f5, f6, f7, f8, f9, f10, f11, f12, f13, f14, f15, f16, f17, f18, f19, f20, f21, f22⟩ := f; omega))]
    exact ref02_10 s a0 a1 a2 a3 a4 a5 a6 a7 a8 a9 a10 w
  by_cases a11 : s.pulse < 1
  · rw [Scr.code_no (by cases h : s.ok; rfl; exact absurd (s.fits h) (fun f => by obtain ⟨f1, f2, f3, f4, f5, f6, f7, f8, f9, f10, f11, f12, f13, f14, f15, f16, f17, f18, f19, f20, f21, f22⟩ := f; omega))]
    exact ref02_11 s a0 a1 a2 a3 a4 a5 a6 a7 a8 a9 a10 a11 w
  by_cases a12 : 64 < s.pulse
  · rw [Scr.code_no (by cases h : s.ok; rfl; exact absurd (s.fits h) (fun f => by obtain ⟨f1, f2, f3, f4, f5, f6, f7, f8, f9, f10, f11, f12, f13, f14, f15, f16, f17, f18, f19, f20, f21, f22⟩ := f; omega))]
    exact ref02_12 s a0 a1 a2 a3 a4 a5 a6 a7 a8 a9 a10 a11 a12 w
  by_cases a13 : s.lines * s.columns < s.pulse
  · rw [Scr.code_no (by cases h : s.ok; rfl; exact absurd (s.fits h) (fun f => by obtain ⟨f1, f2, f3, f4, f5, f6, f7, f8, f9, f10, f11, f12, f13, f14, f15, f16, f17, f18, f19, f20, f21, f22⟩ := f; omega))]
    exact ref02_13 s a0 a1 a2 a3 a4 a5 a6 a7 a8 a9 a10 a11 a12 a13 w
  by_cases a14 : s.top < 0
  · rw [Scr.code_no (by cases h : s.ok; rfl; exact absurd (s.fits h) (fun f => by obtain ⟨f1, f2, f3, f4, f5, f6, f7, f8, f9, f10, f11, f12, f13, f14, f15, f16, f17, f18, f19, f20, f21, f22⟩ := f; omega))]
    exact ref02_14 s a0 a1 a2 a3 a4 a5 a6 a7 a8 a9 a10 a11 a12 a13 a14 w
  by_cases a15 : s.lines - s.rows < s.top
  · rw [Scr.code_no (by cases h : s.ok; rfl; exact absurd (s.fits h) (fun f => by obtain ⟨f1, f2, f3, f4, f5, f6, f7, f8, f9, f10, f11, f12, f13, f14, f15, f16, f17, f18, f19, f20, f21, f22⟩ := f; omega))]
    exact ref02_15 s a0 a1 a2 a3 a4 a5 a6 a7 a8 a9 a10 a11 a12 a13 a14 a15 w
  by_cases a16 : s.left < 1
  · rw [Scr.code_no (by cases h : s.ok; rfl; exact absurd (s.fits h) (fun f => by obtain ⟨f1, f2, f3, f4, f5, f6, f7, f8, f9, f10, f11, f12, f13, f14, f15, f16, f17, f18, f19, f20, f21, f22⟩ := f; omega))]
    exact ref02_16 s a0 a1 a2 a3 a4 a5 a6 a7 a8 a9 a10 a11 a12 a13 a14 a15 a16 w
  by_cases a17 : s.columns - 4 * s.wide < s.left
  · rw [Scr.code_no (by cases h : s.ok; rfl; exact absurd (s.fits h) (fun f => by obtain ⟨f1, f2, f3, f4, f5, f6, f7, f8, f9, f10, f11, f12, f13, f14, f15, f16, f17, f18, f19, f20, f21, f22⟩ := f; omega))]
    exact ref02_17 s a0 a1 a2 a3 a4 a5 a6 a7 a8 a9 a10 a11 a12 a13 a14 a15 a16 a17 w
  rw [Scr.code_yes (s.ok_of a0 a1 a2 a3 a4 a5 a6 a7 a8 a9 a10 a11 a12 a13 a14 a15 a16 a17)]
  exact ref02_18 s a0 a1 a2 a3 a4 a5 a6 a7 a8 a9 a10 a11 a12 a13 a14 a15 a16 a17 w

theorem ref02_length (s : Scr) (w : World) :
    Calls Try.prog 27 #[s.val] w fun e w' => e = .returned (.int .i64 s.len) ∧ Below w.heap.size w w' := by
  cases h : s.ok
  · rw [Scr.len_no h]
    have hc := (ref02_calls s (w.alloc (.cells s.vals 40 (0, 0))))
    rw [Scr.code_no h] at hc
    clear h
    unfold Scr.val Scr.vals at *
    go_enter Try.func27, Try.ntmps27
    go_wp2_with fail
    refine hc.mono ?_; rintro e w' ⟨rfl, hb⟩
    clear hc
    go_wp2_with fail
    go_ret
    exact ⟨rfl, ((Below.refl _ _).alloc (Nat.le_refl _) _).trans (hb.mono (by simp))⟩
  · rw [Scr.len_yes h]
    have hf := s.fits h
    have hc := (ref02_calls s (w.alloc (.cells s.vals 40 (0, 0))))
    rw [Scr.code_yes h] at hc
    clear h
    obtain ⟨_, _, _, _, _, _, _, _, _, _, _, _, _, _, _, _, _, _, _, _, n1, n2⟩ := hf
    unfold Scr.val Scr.vals at *
    go_enter Try.func27, Try.ntmps27
    go_wp2_with fail
    refine hc.mono ?_; rintro e w' ⟨rfl, hb⟩
    clear hc
    have g0 : w'.cell? ⟨w.heap.size, 0, none⟩ = some (.int .i64 s.lines) := (hb.cell (p := ⟨w.heap.size, 0, none⟩) (by simp)).trans (by simp)
    have g1 : w'.cell? ⟨w.heap.size, 1, none⟩ = some (.int .i64 s.columns) := (hb.cell (p := ⟨w.heap.size, 1, none⟩) (by simp)).trans (by simp)
    go_wp2_with fail
    go_ret
    exact ⟨rfl, ((Below.refl _ _).alloc (Nat.le_refl _) _).trans (hb.mono (by simp))⟩

def classic : Scr := ⟨311, 228, 63, 192, 14, 32, 36⟩
theorem classic_ok : classic.ok = true := by decide
theorem ref02_classic (w : World) :
    Calls Try.prog 85 #[] w fun e w' => e = .returned classic.val ∧ Below w.heap.size w w' := by
  unfold Scr.val Scr.vals classic
  go_enter Try.func85, Try.ntmps85
  go_wp2_with fail
  exact bodyPost_ret (Kit.res_c rfl w.heap.size rfl (Kit.blk1 _ _) Try.underlying40 rfl (by kernel_rfl)) rfl ⟨rfl, Kit.below1 _ _⟩
theorem tstate_classic (w : World) :
    Calls Try.prog 94 #[] w fun e w' => e = .returned classic.val ∧ Below w.heap.size w w' := by
  unfold Scr.val Scr.vals classic
  go_enter Try.func94, Try.ntmps94
  go_wp2_with fail
  exact bodyPost_ret (Kit.res_c rfl w.heap.size rfl (Kit.blk1 _ _) Try.underlying40 rfl (by kernel_rfl)) rfl ⟨rfl, Kit.below1 _ _⟩
end Go.Proofs.YthbbbmomlehimaaR.Ts
