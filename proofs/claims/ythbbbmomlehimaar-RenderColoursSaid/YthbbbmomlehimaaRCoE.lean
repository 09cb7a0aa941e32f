import Derived.Test.YthbbbmomlehimaaRCoC
set_option linter.unusedVariables false
namespace Go.Proofs.YthbbbmomlehimaaR.Ts
open Go.RowKit

def Rq.okB (q : Rq) : Bool := ((q.kind == 6) && (q.addr == 0) && (q.value == 0) && decide (1 ≤ q.len) && decide (q.len ≤ 7))
  || (((((q.kind == 1) || (q.kind == 4) || (q.kind == 5)) && (q.len == 4)) || (((q.kind == 2) || (q.kind == 3)) && (q.len == 3)) || ((q.kind == 7) && (q.len == 7))) && ((q.value == 0) || (q.kind == 3) || (q.kind == 5)))
def Rq.code (q : Rq) : Int := if q.okB then 0 else 2
theorem ref11_1_len (a v n : Int) (l0 : (n == 4) = false) (w : World) :
    Calls Try.prog 25 #[.agg #[.int .i64 1, .int .u16 a, .int .u8 v, .int .i64 n]] w fun e w' => e = .returned (.int .i64 2) ∧ Below w.heap.size w w' := by
  have l0n : (n != 4) = true := by simpa using l0
  go_enter Try.func25, Try.ntmps25
  go_wp2_with fail
  all_goals go_ret
  all_goals exact ⟨rfl, by go_grown⟩
theorem ref11_1_val (a v : Int) (v0 : (v == 0) = false) (w : World) :
    Calls Try.prog 25 #[.agg #[.int .i64 1, .int .u16 a, .int .u8 v, .int .i64 4]] w fun e w' => e = .returned (.int .i64 2) ∧ Below w.heap.size w w' := by
  have v0n : (v != 0) = true := by simpa using v0
  go_enter Try.func25, Try.ntmps25
  go_wp2_with fail
  all_goals go_ret
  all_goals exact ⟨rfl, by go_grown⟩
theorem ref11_1_ok (a : Int)  (w : World) :
    Calls Try.prog 25 #[.agg #[.int .i64 1, .int .u16 a, .int .u8 0, .int .i64 4]] w fun e w' => e = .returned (.int .i64 0) ∧ Below w.heap.size w w' := by
  go_enter Try.func25, Try.ntmps25
  go_wp2_with fail
  all_goals go_ret
  all_goals exact ⟨rfl, by go_grown⟩
theorem stepc_1_ok (a : Int)  (w : World) :
    Calls Try.prog 87 #[.agg #[.int .i64 1, .int .u16 a, .int .u8 0, .int .i64 4]] w fun e w' => e = .returned (.int .i64 0) ∧ Below w.heap.size w w' := by
  go_enter Try.func87, Try.ntmps87
  go_wp2_with fail
  all_goals go_ret
  all_goals exact ⟨rfl, by go_grown⟩
theorem ref11_2_len (a v n : Int) (l0 : (n == 3) = false) (w : World) :
    Calls Try.prog 25 #[.agg #[.int .i64 2, .int .u16 a, .int .u8 v, .int .i64 n]] w fun e w' => e = .returned (.int .i64 2) ∧ Below w.heap.size w w' := by
  have l0n : (n != 3) = true := by simpa using l0
  go_enter Try.func25, Try.ntmps25
  go_wp2_with fail
  all_goals go_ret
  all_goals exact ⟨rfl, by go_grown⟩
theorem ref11_2_val (a v : Int) (v0 : (v == 0) = false) (w : World) :
    Calls Try.prog 25 #[.agg #[.int .i64 2, .int .u16 a, .int .u8 v, .int .i64 3]] w fun e w' => e = .returned (.int .i64 2) ∧ Below w.heap.size w w' := by
  have v0n : (v != 0) = true := by simpa using v0
  go_enter Try.func25, Try.ntmps25
  go_wp2_with fail
  all_goals go_ret
  all_goals exact ⟨rfl, by go_grown⟩
theorem ref11_2_ok (a : Int)  (w : World) :
    Calls Try.prog 25 #[.agg #[.int .i64 2, .int .u16 a, .int .u8 0, .int .i64 3]] w fun e w' => e = .returned (.int .i64 0) ∧ Below w.heap.size w w' := by
  go_enter Try.func25, Try.ntmps25
  go_wp2_with fail
  all_goals go_ret
  all_goals exact ⟨rfl, by go_grown⟩
theorem stepc_2_ok (a : Int)  (w : World) :
    Calls Try.prog 87 #[.agg #[.int .i64 2, .int .u16 a, .int .u8 0, .int .i64 3]] w fun e w' => e = .returned (.int .i64 0) ∧ Below w.heap.size w w' := by
  go_enter Try.func87, Try.ntmps87
  go_wp2_with fail
  all_goals go_ret
  all_goals exact ⟨rfl, by go_grown⟩
theorem ref11_3_len (a v n : Int) (l0 : (n == 3) = false) (w : World) :
    Calls Try.prog 25 #[.agg #[.int .i64 3, .int .u16 a, .int .u8 v, .int .i64 n]] w fun e w' => e = .returned (.int .i64 2) ∧ Below w.heap.size w w' := by
  have l0n : (n != 3) = true := by simpa using l0
  go_enter Try.func25, Try.ntmps25
  go_wp2_with fail
  all_goals go_ret
  all_goals exact ⟨rfl, by go_grown⟩
theorem ref11_3_ok (a v : Int)  (w : World) :
    Calls Try.prog 25 #[.agg #[.int .i64 3, .int .u16 a, .int .u8 v, .int .i64 3]] w fun e w' => e = .returned (.int .i64 0) ∧ Below w.heap.size w w' := by
  go_enter Try.func25, Try.ntmps25
  go_wp2_with fail
  all_goals go_ret
  all_goals exact ⟨rfl, by go_grown⟩
theorem stepc_3_ok (a v : Int)  (w : World) :
    Calls Try.prog 87 #[.agg #[.int .i64 3, .int .u16 a, .int .u8 v, .int .i64 3]] w fun e w' => e = .returned (.int .i64 0) ∧ Below w.heap.size w w' := by
  go_enter Try.func87, Try.ntmps87
  go_wp2_with fail
  all_goals go_ret
  all_goals exact ⟨rfl, by go_grown⟩
theorem ref11_4_len (a v n : Int) (l0 : (n == 4) = false) (w : World) :
    Calls Try.prog 25 #[.agg #[.int .i64 4, .int .u16 a, .int .u8 v, .int .i64 n]] w fun e w' => e = .returned (.int .i64 2) ∧ Below w.heap.size w w' := by
  have l0n : (n != 4) = true := by simpa using l0
  go_enter Try.func25, Try.ntmps25
  go_wp2_with fail
  all_goals go_ret
  all_goals exact ⟨rfl, by go_grown⟩
theorem ref11_4_val (a v : Int) (v0 : (v == 0) = false) (w : World) :
    Calls Try.prog 25 #[.agg #[.int .i64 4, .int .u16 a, .int .u8 v, .int .i64 4]] w fun e w' => e = .returned (.int .i64 2) ∧ Below w.heap.size w w' := by
  have v0n : (v != 0) = true := by simpa using v0
  go_enter Try.func25, Try.ntmps25
  go_wp2_with fail
  all_goals go_ret
  all_goals exact ⟨rfl, by go_grown⟩
theorem ref11_4_ok (a : Int)  (w : World) :
    Calls Try.prog 25 #[.agg #[.int .i64 4, .int .u16 a, .int .u8 0, .int .i64 4]] w fun e w' => e = .returned (.int .i64 0) ∧ Below w.heap.size w w' := by
  go_enter Try.func25, Try.ntmps25
  go_wp2_with fail
  all_goals go_ret
  all_goals exact ⟨rfl, by go_grown⟩
theorem stepc_4_ok (a : Int)  (w : World) :
    Calls Try.prog 87 #[.agg #[.int .i64 4, .int .u16 a, .int .u8 0, .int .i64 4]] w fun e w' => e = .returned (.int .i64 0) ∧ Below w.heap.size w w' := by
  go_enter Try.func87, Try.ntmps87
  go_wp2_with fail
  all_goals go_ret
  all_goals exact ⟨rfl, by go_grown⟩
theorem ref11_5_len (a v n : Int) (l0 : (n == 4) = false) (w : World) :
    Calls Try.prog 25 #[.agg #[.int .i64 5, .int .u16 a, .int .u8 v, .int .i64 n]] w fun e w' => e = .returned (.int .i64 2) ∧ Below w.heap.size w w' := by
  have l0n : (n != 4) = true := by simpa using l0
  go_enter Try.func25, Try.ntmps25
  go_wp2_with fail
  all_goals go_ret
  all_goals exact ⟨rfl, by go_grown⟩
theorem ref11_5_ok (a v : Int)  (w : World) :
    Calls Try.prog 25 #[.agg #[.int .i64 5, .int .u16 a, .int .u8 v, .int .i64 4]] w fun e w' => e = .returned (.int .i64 0) ∧ Below w.heap.size w w' := by
  go_enter Try.func25, Try.ntmps25
  go_wp2_with fail
  all_goals go_ret
  all_goals exact ⟨rfl, by go_grown⟩
theorem stepc_5_ok (a v : Int)  (w : World) :
    Calls Try.prog 87 #[.agg #[.int .i64 5, .int .u16 a, .int .u8 v, .int .i64 4]] w fun e w' => e = .returned (.int .i64 0) ∧ Below w.heap.size w w' := by
  go_enter Try.func87, Try.ntmps87
  go_wp2_with fail
  all_goals go_ret
  all_goals exact ⟨rfl, by go_grown⟩
theorem ref11_7_len (a v n : Int) (l0 : (n == 7) = false) (w : World) :
    Calls Try.prog 25 #[.agg #[.int .i64 7, .int .u16 a, .int .u8 v, .int .i64 n]] w fun e w' => e = .returned (.int .i64 2) ∧ Below w.heap.size w w' := by
  have l0n : (n != 7) = true := by simpa using l0
  go_enter Try.func25, Try.ntmps25
  go_wp2_with fail
  all_goals go_ret
  all_goals exact ⟨rfl, by go_grown⟩
theorem ref11_7_val (a v : Int) (v0 : (v == 0) = false) (w : World) :
    Calls Try.prog 25 #[.agg #[.int .i64 7, .int .u16 a, .int .u8 v, .int .i64 7]] w fun e w' => e = .returned (.int .i64 2) ∧ Below w.heap.size w w' := by
  have v0n : (v != 0) = true := by simpa using v0
  go_enter Try.func25, Try.ntmps25
  go_wp2_with fail
  all_goals go_ret
  all_goals exact ⟨rfl, by go_grown⟩
theorem ref11_7_ok (a : Int)  (w : World) :
    Calls Try.prog 25 #[.agg #[.int .i64 7, .int .u16 a, .int .u8 0, .int .i64 7]] w fun e w' => e = .returned (.int .i64 0) ∧ Below w.heap.size w w' := by
  go_enter Try.func25, Try.ntmps25
  go_wp2_with fail
  all_goals go_ret
  all_goals exact ⟨rfl, by go_grown⟩
theorem stepc_7_ok (a : Int)  (w : World) :
    Calls Try.prog 87 #[.agg #[.int .i64 7, .int .u16 a, .int .u8 0, .int .i64 7]] w fun e w' => e = .returned (.int .i64 0) ∧ Below w.heap.size w w' := by
  go_enter Try.func87, Try.ntmps87
  go_wp2_with fail
  all_goals go_ret
  all_goals exact ⟨rfl, by go_grown⟩
theorem ref11_6_low (a v n : Int) (l1 : n < 1) (w : World) :
    Calls Try.prog 25 #[.agg #[.int .i64 6, .int .u16 a, .int .u8 v, .int .i64 n]] w fun e w' => e = .returned (.int .i64 2) ∧ Below w.heap.size w w' := by
  have m1 : decide (1 ≤ n) = false := decide_eq_false (by omega)
  have m1b : decide (n < 1) = true := decide_eq_true l1
  go_enter Try.func25, Try.ntmps25
  go_wp2_with fail
  all_goals go_ret
  all_goals exact ⟨rfl, by go_grown⟩
theorem ref11_6_high (a v n : Int) (l1 : 1 ≤ n) (l2 : 7 < n) (w : World) :
    Calls Try.prog 25 #[.agg #[.int .i64 6, .int .u16 a, .int .u8 v, .int .i64 n]] w fun e w' => e = .returned (.int .i64 2) ∧ Below w.heap.size w w' := by
  have m1 : decide (1 ≤ n) = true := decide_eq_true l1
  have m1b : decide (n < 1) = false := decide_eq_false (by omega)
  have m3 : (n == 0) = false := beq_eq_false_iff_ne.2 (by omega)
  have m2 : decide (n ≤ 7) = false := decide_eq_false (by omega)
  have m2b : decide (7 < n) = true := decide_eq_true l2
  go_enter Try.func25, Try.ntmps25
  go_wp2_with fail
  all_goals go_ret
  all_goals exact ⟨rfl, by go_grown⟩
theorem ref11_6_val (a v n : Int) (l1 : 1 ≤ n) (l2 : n ≤ 7) (v0 : (v == 0) = false) (w : World) :
    Calls Try.prog 25 #[.agg #[.int .i64 6, .int .u16 a, .int .u8 v, .int .i64 n]] w fun e w' => e = .returned (.int .i64 2) ∧ Below w.heap.size w w' := by
  have m1 : decide (1 ≤ n) = true := decide_eq_true l1
  have m1b : decide (n < 1) = false := decide_eq_false (by omega)
  have m3 : (n == 0) = false := beq_eq_false_iff_ne.2 (by omega)
  have m2 : decide (n ≤ 7) = true := decide_eq_true l2
  have m2b : decide (7 < n) = false := decide_eq_false (by omega)
  have v0n : (v != 0) = true := by simpa using v0
  go_enter Try.func25, Try.ntmps25
  go_wp2_with fail
  all_goals go_ret
  all_goals exact ⟨rfl, by go_grown⟩
theorem ref11_6_addr (a n : Int) (l1 : 1 ≤ n) (l2 : n ≤ 7) (a0 : (a == 0) = false) (w : World) :
    Calls Try.prog 25 #[.agg #[.int .i64 6, .int .u16 a, .int .u8 0, .int .i64 n]] w fun e w' => e = .returned (.int .i64 2) ∧ Below w.heap.size w w' := by
  have m1 : decide (1 ≤ n) = true := decide_eq_true l1
  have m1b : decide (n < 1) = false := decide_eq_false (by omega)
  have m3 : (n == 0) = false := beq_eq_false_iff_ne.2 (by omega)
  have m2 : decide (n ≤ 7) = true := decide_eq_true l2
  have m2b : decide (7 < n) = false := decide_eq_false (by omega)
  have a0n : (a != 0) = true := by simpa using a0
  go_enter Try.func25, Try.ntmps25
  go_wp2_with fail
  all_goals go_ret
  all_goals exact ⟨rfl, by go_grown⟩
theorem ref11_6_ok (n : Int) (l1 : 1 ≤ n) (l2 : n ≤ 7) (w : World) :
    Calls Try.prog 25 #[.agg #[.int .i64 6, .int .u16 0, .int .u8 0, .int .i64 n]] w fun e w' => e = .returned (.int .i64 0) ∧ Below w.heap.size w w' := by
  have m1 : decide (1 ≤ n) = true := decide_eq_true l1
  have m1b : decide (n < 1) = false := decide_eq_false (by omega)
  have m3 : (n == 0) = false := beq_eq_false_iff_ne.2 (by omega)
  have m2 : decide (n ≤ 7) = true := decide_eq_true l2
  have m2b : decide (7 < n) = false := decide_eq_false (by omega)
  go_enter Try.func25, Try.ntmps25
  go_wp2_with fail
  all_goals go_ret
  all_goals exact ⟨rfl, by go_grown⟩
theorem stepc_6_ok (n : Int) (l1 : 1 ≤ n) (l2 : n ≤ 7) (w : World) :
    Calls Try.prog 87 #[.agg #[.int .i64 6, .int .u16 0, .int .u8 0, .int .i64 n]] w fun e w' => e = .returned (.int .i64 0) ∧ Below w.heap.size w w' := by
  have m1 : decide (1 ≤ n) = true := decide_eq_true l1
  have m1b : decide (n < 1) = false := decide_eq_false (by omega)
  have m3 : (n == 0) = false := beq_eq_false_iff_ne.2 (by omega)
  have m2 : decide (n ≤ 7) = true := decide_eq_true l2
  have m2b : decide (7 < n) = false := decide_eq_false (by omega)
  go_enter Try.func87, Try.ntmps87
  go_wp2_with fail
  all_goals go_ret
  all_goals exact ⟨rfl, by go_grown⟩
theorem ref11_else (k a v n : Int) (k1 : (k == 1) = false) (k2 : (k == 2) = false) (k3 : (k == 3) = false) (k4 : (k == 4) = false) (k5 : (k == 5) = false) (k6 : (k == 6) = false) (k7 : (k == 7) = false) (w : World) :
    Calls Try.prog 25 #[.agg #[.int .i64 k, .int .u16 a, .int .u8 v, .int .i64 n]] w fun e w' => e = .returned (.int .i64 2) ∧ Below w.heap.size w w' := by
  go_enter Try.func25, Try.ntmps25
  go_wp2_with fail
  go_ret
  exact ⟨rfl, by go_grown⟩

theorem ref11_calls (q : Rq) (w : World) :
    Calls Try.prog 25 #[q.val] w fun e w' => e = .returned (.int .i64 q.code) ∧ Below w.heap.size w w' := by
  obtain ⟨k, a, v, n⟩ := q
  simp only [Rq.val, Rq.vals]
  by_cases e1 : k = 1
  · subst e1
    by_cases en : n = 4
    · subst en
      by_cases ev : v = 0
      · subst ev
        rw [show (Rq.code ⟨1, a, 0, 4⟩) = 0 from by simp [Rq.code, Rq.okB]]
        exact ref11_1_ok a w
      · rw [show (Rq.code ⟨1, a, v, 4⟩) = 2 from by simp [Rq.code, Rq.okB, ev]]
        exact ref11_1_val a v (by simpa using ev) w
    · rw [show (Rq.code ⟨1, a, v, n⟩) = 2 from by simp [Rq.code, Rq.okB, en]]
      exact ref11_1_len a v n (by simpa using en) w
  by_cases e2 : k = 2
  · subst e2
    by_cases en : n = 3
    · subst en
      by_cases ev : v = 0
      · subst ev
        rw [show (Rq.code ⟨2, a, 0, 3⟩) = 0 from by simp [Rq.code, Rq.okB]]
        exact ref11_2_ok a w
      · rw [show (Rq.code ⟨2, a, v, 3⟩) = 2 from by simp [Rq.code, Rq.okB, ev]]
        exact ref11_2_val a v (by simpa using ev) w
    · rw [show (Rq.code ⟨2, a, v, n⟩) = 2 from by simp [Rq.code, Rq.okB, en]]
      exact ref11_2_len a v n (by simpa using en) w
  by_cases e3 : k = 3
  · subst e3
    by_cases en : n = 3
    · subst en
      rw [show (Rq.code ⟨3, a, v, 3⟩) = 0 from by simp [Rq.code, Rq.okB]]
      exact ref11_3_ok a v w
    · rw [show (Rq.code ⟨3, a, v, n⟩) = 2 from by simp [Rq.code, Rq.okB, en]]
      exact ref11_3_len a v n (by simpa using en) w
  by_cases e4 : k = 4
  · subst e4
    by_cases en : n = 4
    · subst en
      by_cases ev : v = 0
      · subst ev
        rw [show (Rq.code ⟨4, a, 0, 4⟩) = 0 from by simp [Rq.code, Rq.okB]]
        exact ref11_4_ok a w
      · rw [show (Rq.code ⟨4, a, v, 4⟩) = 2 from by simp [Rq.code, Rq.okB, ev]]
        exact ref11_4_val a v (by simpa using ev) w
    · rw [show (Rq.code ⟨4, a, v, n⟩) = 2 from by simp [Rq.code, Rq.okB, en]]
      exact ref11_4_len a v n (by simpa using en) w
  by_cases e5 : k = 5
  · subst e5
    by_cases en : n = 4
    · subst en
      rw [show (Rq.code ⟨5, a, v, 4⟩) = 0 from by simp [Rq.code, Rq.okB]]
      exact ref11_5_ok a v w
    · rw [show (Rq.code ⟨5, a, v, n⟩) = 2 from by simp [Rq.code, Rq.okB, en]]
      exact ref11_5_len a v n (by simpa using en) w
  by_cases e7 : k = 7
  · subst e7
    by_cases en : n = 7
    · subst en
      by_cases ev : v = 0
      · subst ev
        rw [show (Rq.code ⟨7, a, 0, 7⟩) = 0 from by simp [Rq.code, Rq.okB]]
        exact ref11_7_ok a w
      · rw [show (Rq.code ⟨7, a, v, 7⟩) = 2 from by simp [Rq.code, Rq.okB, ev]]
        exact ref11_7_val a v (by simpa using ev) w
    · rw [show (Rq.code ⟨7, a, v, n⟩) = 2 from by simp [Rq.code, Rq.okB, en]]
      exact ref11_7_len a v n (by simpa using en) w
  by_cases e6 : k = 6
  · subst e6
    by_cases l1 : 1 ≤ n
    · by_cases l2 : n ≤ 7
      · by_cases ev : v = 0
        · subst ev
          by_cases ea : a = 0
          · subst ea
            rw [show (Rq.code ⟨6, 0, 0, n⟩) = 0 from by simp [Rq.code, Rq.okB, l1, l2]]
            exact ref11_6_ok n l1 l2 w
          · rw [show (Rq.code ⟨6, a, 0, n⟩) = 2 from by simp [Rq.code, Rq.okB, ea]]
            exact ref11_6_addr a n l1 l2 (by simpa using ea) w
        · rw [show (Rq.code ⟨6, a, v, n⟩) = 2 from by simp [Rq.code, Rq.okB, ev]]
          exact ref11_6_val a v n l1 l2 (by simpa using ev) w
      · rw [show (Rq.code ⟨6, a, v, n⟩) = 2 from by simp [Rq.code, Rq.okB, l2]]
        exact ref11_6_high a v n l1 (by omega) w
    · rw [show (Rq.code ⟨6, a, v, n⟩) = 2 from by simp [Rq.code, Rq.okB, l1]]
      exact ref11_6_low a v n (by omega) w
  rw [show (Rq.code ⟨k, a, v, n⟩) = 2 from by simp [Rq.code, Rq.okB, e1, e2, e3, e4, e5, e6, e7]]
  exact ref11_else k a v n (by simpa using e1) (by simpa using e2) (by simpa using e3) (by simpa using e4) (by simpa using e5) (by simpa using e6) (by simpa using e7) w

theorem Rq.shape {q : Rq} (h : q.okB = true) : (q.kind = 6 ∧ q.addr = 0 ∧ q.value = 0 ∧ 1 ≤ q.len ∧ q.len ≤ 7) ∨
    (((q.kind = 1 ∨ q.kind = 4 ∨ q.kind = 5) ∧ q.len = 4 ∨ (q.kind = 2 ∨ q.kind = 3) ∧ q.len = 3 ∨ q.kind = 7 ∧ q.len = 7) ∧ (q.value = 0 ∨ q.kind = 3 ∨ q.kind = 5)) := by
  simp only [Rq.okB, Bool.or_eq_true, Bool.and_eq_true, beq_iff_eq, decide_eq_true_eq] at h
  omega
theorem step_ok (q : Rq) (h : q.okB = true) : StepOk q := by
  intro w
  have hs := Rq.shape h
  clear h
  obtain ⟨k, a, v, n⟩ := q
  simp only [Rq.val, Rq.vals] at *
  by_cases e6 : k = 6
  · obtain ⟨a0, v0, l1, l2⟩ : a = 0 ∧ v = 0 ∧ 1 ≤ n ∧ n ≤ 7 := by omega
    subst e6 a0 v0
    exact stepc_6_ok n l1 l2 w
  by_cases e1 : k = 1
  · obtain ⟨v0, n0⟩ : v = 0 ∧ n = 4 := by omega
    subst e1 v0 n0; exact stepc_1_ok a w
  by_cases e2 : k = 2
  · obtain ⟨v0, n0⟩ : v = 0 ∧ n = 3 := by omega
    subst e2 v0 n0; exact stepc_2_ok a w
  by_cases e3 : k = 3
  · obtain rfl : n = 3 := by omega
    subst e3; exact stepc_3_ok a v w
  by_cases e4 : k = 4
  · obtain ⟨v0, n0⟩ : v = 0 ∧ n = 4 := by omega
    subst e4 v0 n0; exact stepc_4_ok a w
  by_cases e5 : k = 5
  · obtain rfl : n = 4 := by omega
    subst e5; exact stepc_5_ok a v w
  obtain ⟨e7, v0, n0⟩ : k = 7 ∧ v = 0 ∧ n = 7 := by omega
  subst e7 v0 n0; exact stepc_7_ok a w
end Go.Proofs.YthbbbmomlehimaaR.Ts
