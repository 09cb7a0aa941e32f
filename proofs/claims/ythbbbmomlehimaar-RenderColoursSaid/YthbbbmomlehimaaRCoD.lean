import Derived.Test.YthbbbmomlehimaaRCoC
set_option linter.unusedVariables false
namespace Go.Proofs.YthbbbmomlehimaaR.Ts
open Go.RowKit

theorem and1 (a : Int) (h : 0 ≤ a) (h2 : a < 65536) : bits .and .u16 a 1 = a % 2 :=
  bits_mask .u16 16 (by decide) (fun n h0 h1 => by rw [IntKind.wrap_u16]; omega) 1 (by decide) a h (by omega)
set_option maxRecDepth 100000 in
set_option maxHeartbeats 1000000 in
theorem req_io4_true_true (s : Scr) (q : Rq) (t : Int) (h : s.ok = true) (hq : StepOk q) (h1 : 0 ≤ t) (h2 : t ≤ 1099511626776) (w : World) (k6 : (q.kind == 6) = false) (k4 : (q.kind == 4) = true) (a1 : 0 ≤ q.addr) (a2 : q.addr < 65536) (he : (q.addr % 2 == 0) = true) :
    Calls Try.prog 28 #[s.val, q.val, .bool true, .int .i64 t] w fun e w' => e = .returned (.tuple #[.int .i64 (s.io true true t |>.1), .int .i64 (s.io true true t |>.2), .int .i64 0]) ∧ Below w.heap.size w w' := by
  have ha := and1 q.addr a1 a2
  have hg0 := s.go_le (t)
  obtain ⟨ha0, hb0⟩ := hg0
  have hg1 := s.go_le (s.go_ t + 1)
  obtain ⟨ha1, hb1⟩ := hg1
  have hc := check_calls s
  rw [Scr.code_yes h] at hc
  have HC := Lib.hid hc; clear hc
  have HQ := Lib.hid hq; clear hq
  go_enter Try.func28, Try.ntmps28
  simp only [Scr.val, Scr.vals, Rq.val, Rq.vals]
  go_wp2_with fail
  refine (HC.out _).mono ?_; rintro e w1 ⟨rfl, hb⟩
  have A0 : w1.heap[w.heap.size]? = some (.cells s.vals 40 (0, 0)) := Kit.kept hb (Kit.blk3a _ _ _ _)
  have A1 : w1.heap[w.heap.size + 1]? = some (.cells q.vals 46 (0, 0)) := Kit.kept hb (Kit.blk3b _ _ _ _)
  have A2 : w1.heap[w.heap.size + 2]? = some (.cells #[.int .i64 t] 2 (0, 0)) := Kit.kept hb (Kit.blk3c _ _ _ _)
  have hB1 := Kit.then_ (Kit.below3 _ _ _ _) hb
  clear hb
  have q0 : w1.cell? ⟨w.heap.size + 1, 0, none⟩ = some (.int .i64 q.kind) := Kit.cell A1 0 _ rfl
  have q1 : w1.cell? ⟨w.heap.size + 1, 1, none⟩ = some (.int .u16 q.addr) := Kit.cell A1 1 _ rfl
  have q2 : w1.cell? ⟨w.heap.size + 1, 2, none⟩ = some (.int .u8 q.value) := Kit.cell A1 2 _ rfl
  have q3 : w1.cell? ⟨w.heap.size + 1, 3, none⟩ = some (.int .i64 q.len) := Kit.cell A1 3 _ rfl
  have HA0 := Lib.hid A0; have HA1 := Lib.hid A1; have HA2 := Lib.hid A2; clear A0 A1 A2
  have HB1 := Lib.hid hB1; clear hB1
  go_wp2_with fail
  refine (HQ.out _).mono ?_; rintro e w2 ⟨rfl, hb⟩
  clear q0 q1 q2 q3
  have A0 := Kit.kept hb HA0.out
  have A1 := Kit.kept hb HA1.out
  have A2 := Kit.kept hb HA2.out
  have hB2 := Kit.then_ HB1.out hb
  clear hb HA0 HA1 HA2 HB1
  have q0 : w2.cell? ⟨w.heap.size + 1, 0, none⟩ = some (.int .i64 q.kind) := Kit.cell A1 0 _ rfl
  have q1 : w2.cell? ⟨w.heap.size + 1, 1, none⟩ = some (.int .u16 q.addr) := Kit.cell A1 1 _ rfl
  have q3 : w2.cell? ⟨w.heap.size + 1, 3, none⟩ = some (.int .i64 q.len) := Kit.cell A1 3 _ rfl
  have t0 : w2.cell? ⟨w.heap.size + 2, 0, none⟩ = some (.int .i64 (t)) := Kit.cell A2 0 _ rfl
  have tf : w2.frozen? ⟨w.heap.size + 2, 0, none⟩ = false := Kit.frz A2 0
  have HA0 := Lib.hid A0; have HA1 := Lib.hid A1; have HA2 := Lib.hid A2; clear A0 A1 A2
  have d1 : decide (t < 0) = false := decide_eq_false (by omega)
  have d2 : decide (1099511626776 < t) = false := decide_eq_false (by omega)
  have hBs := hB2.size
  have hBp := hB2; clear hB2
  go_wp2_with fail
  refine wp_loop_rounds 5 ?_
  rw [rounds_succ]
  go_wp2_with fail
  refine (wait_closure s (t) h (by omega) (by omega) _ (w.heap.size + 2) w.heap.size HA2.out HA0.out (by omega)).mono ?_; rintro e w3 ⟨rfl, A2, hb⟩
  change w3.heap[w.heap.size + 2]? = some (.cells #[.int .i64 (s.go_ t)] 2 (0, 0)) at A2
  have A0 := hb.blk HA0.out (by omega)
  have A1 := hb.blk HA1.out (by omega)
  have hB := Kit.But.below hBp hb (by omega) hBs
  have hBs2 : w.heap.size ≤ w3.heap.size := hB.size
  clear hb hBp hBs HA0 HA1 HA2 t0 tf q0 q1 q3
  have hBp := hB; have hBs := hBs2; clear hB hBs2
  have q0 : w3.cell? ⟨w.heap.size + 1, 0, none⟩ = some (.int .i64 q.kind) := Kit.cell A1 0 _ rfl
  have q1 : w3.cell? ⟨w.heap.size + 1, 1, none⟩ = some (.int .u16 q.addr) := Kit.cell A1 1 _ rfl
  have q3 : w3.cell? ⟨w.heap.size + 1, 3, none⟩ = some (.int .i64 q.len) := Kit.cell A1 3 _ rfl
  have t0 : w3.cell? ⟨w.heap.size + 2, 0, none⟩ = some (.int .i64 (s.go_ t)) := Kit.cell A2 0 _ rfl
  have tf : w3.frozen? ⟨w.heap.size + 2, 0, none⟩ = false := Kit.frz A2 0
  have HA0 := Lib.hid A0; have HA1 := Lib.hid A1; have HA2 := Lib.hid A2; clear A0 A1 A2
  go_wp2_with fail
  generalize hW : w3.setCell ⟨w.heap.size + 1 + 1, 0, none⟩ (.int .i64 (s.go_ t + 1)) = w4
  have A0 : w4.heap[w.heap.size]? = some (.cells s.vals 40 (0, 0)) := by rw [← hW]; exact Kit.set_far HA0.out _ (by simp; omega) _
  have A1 : w4.heap[w.heap.size + 1]? = some (.cells q.vals 46 (0, 0)) := by rw [← hW]; exact Kit.set_far HA1.out _ (by simp) _
  have A2 : w4.heap[w.heap.size + 2]? = some (.cells #[.int .i64 (s.go_ t + 1)] 2 (0, 0)) := by rw [← hW]; exact Kit.set_ HA2.out 0 _ rfl
  have hB : Below w.heap.size w w4 := by rw [← hW]; exact hBp.setCell (by simp; omega) _
  clear hW hBp hBs HA0 HA1 HA2 t0 tf q0 q1 q3
  have hBp := hB; have hBs := hB.size; clear hB
  have q0 : w4.cell? ⟨w.heap.size + 1, 0, none⟩ = some (.int .i64 q.kind) := Kit.cell A1 0 _ rfl
  have q1 : w4.cell? ⟨w.heap.size + 1, 1, none⟩ = some (.int .u16 q.addr) := Kit.cell A1 1 _ rfl
  have q3 : w4.cell? ⟨w.heap.size + 1, 3, none⟩ = some (.int .i64 q.len) := Kit.cell A1 3 _ rfl
  have t0 : w4.cell? ⟨w.heap.size + 2, 0, none⟩ = some (.int .i64 (s.go_ t + 1)) := Kit.cell A2 0 _ rfl
  have tf : w4.frozen? ⟨w.heap.size + 2, 0, none⟩ = false := Kit.frz A2 0
  have HA0 := Lib.hid A0; have HA1 := Lib.hid A1; have HA2 := Lib.hid A2; clear A0 A1 A2
  rw [rounds_succ]
  go_wp2_with fail
  refine (wait_closure s (s.go_ t + 1) h (by omega) (by omega) _ (w.heap.size + 2) w.heap.size HA2.out HA0.out (by omega)).mono ?_; rintro e w5 ⟨rfl, A2, hb⟩
  change w5.heap[w.heap.size + 2]? = some (.cells #[.int .i64 (s.go_ (s.go_ t + 1))] 2 (0, 0)) at A2
  have A0 := hb.blk HA0.out (by omega)
  have A1 := hb.blk HA1.out (by omega)
  have hB := Kit.But.below hBp hb (by omega) hBs
  have hBs2 : w.heap.size ≤ w5.heap.size := hB.size
  clear hb hBp hBs HA0 HA1 HA2 t0 tf q0 q1 q3
  have hBp := hB; have hBs := hBs2; clear hB hBs2
  have q0 : w5.cell? ⟨w.heap.size + 1, 0, none⟩ = some (.int .i64 q.kind) := Kit.cell A1 0 _ rfl
  have q1 : w5.cell? ⟨w.heap.size + 1, 1, none⟩ = some (.int .u16 q.addr) := Kit.cell A1 1 _ rfl
  have q3 : w5.cell? ⟨w.heap.size + 1, 3, none⟩ = some (.int .i64 q.len) := Kit.cell A1 3 _ rfl
  have t0 : w5.cell? ⟨w.heap.size + 2, 0, none⟩ = some (.int .i64 (s.go_ (s.go_ t + 1))) := Kit.cell A2 0 _ rfl
  have tf : w5.frozen? ⟨w.heap.size + 2, 0, none⟩ = false := Kit.frz A2 0
  have HA0 := Lib.hid A0; have HA1 := Lib.hid A1; have HA2 := Lib.hid A2; clear A0 A1 A2
  go_wp2_with fail
  generalize hW : w5.setCell ⟨w.heap.size + 1 + 1, 0, none⟩ (.int .i64 (s.go_ (s.go_ t + 1) + 1)) = w6
  have A0 : w6.heap[w.heap.size]? = some (.cells s.vals 40 (0, 0)) := by rw [← hW]; exact Kit.set_far HA0.out _ (by simp; omega) _
  have A1 : w6.heap[w.heap.size + 1]? = some (.cells q.vals 46 (0, 0)) := by rw [← hW]; exact Kit.set_far HA1.out _ (by simp) _
  have A2 : w6.heap[w.heap.size + 2]? = some (.cells #[.int .i64 (s.go_ (s.go_ t + 1) + 1)] 2 (0, 0)) := by rw [← hW]; exact Kit.set_ HA2.out 0 _ rfl
  have hB : Below w.heap.size w w6 := by rw [← hW]; exact hBp.setCell (by simp; omega) _
  clear hW hBp hBs HA0 HA1 HA2 t0 tf q0 q1 q3
  have hBp := hB; have hBs := hB.size; clear hB
  have q0 : w6.cell? ⟨w.heap.size + 1, 0, none⟩ = some (.int .i64 q.kind) := Kit.cell A1 0 _ rfl
  have q1 : w6.cell? ⟨w.heap.size + 1, 1, none⟩ = some (.int .u16 q.addr) := Kit.cell A1 1 _ rfl
  have q3 : w6.cell? ⟨w.heap.size + 1, 3, none⟩ = some (.int .i64 q.len) := Kit.cell A1 3 _ rfl
  have t0 : w6.cell? ⟨w.heap.size + 2, 0, none⟩ = some (.int .i64 (s.go_ (s.go_ t + 1) + 1)) := Kit.cell A2 0 _ rfl
  have tf : w6.frozen? ⟨w.heap.size + 2, 0, none⟩ = false := Kit.frz A2 0
  have HA0 := Lib.hid A0; have HA1 := Lib.hid A1; have HA2 := Lib.hid A2; clear A0 A1 A2
  rw [rounds_succ]
  go_wp2_with fail
  generalize hW : w6.setCell ⟨w.heap.size + 1 + 1, 0, none⟩ (.int .i64 (s.go_ (s.go_ t + 1) + 1 + 1)) = w7
  have A0 : w7.heap[w.heap.size]? = some (.cells s.vals 40 (0, 0)) := by rw [← hW]; exact Kit.set_far HA0.out _ (by simp; omega) _
  have A1 : w7.heap[w.heap.size + 1]? = some (.cells q.vals 46 (0, 0)) := by rw [← hW]; exact Kit.set_far HA1.out _ (by simp) _
  have A2 : w7.heap[w.heap.size + 2]? = some (.cells #[.int .i64 (s.go_ (s.go_ t + 1) + 1 + 1)] 2 (0, 0)) := by rw [← hW]; exact Kit.set_ HA2.out 0 _ rfl
  have hB : Below w.heap.size w w7 := by rw [← hW]; exact hBp.setCell (by simp; omega) _
  clear hW hBp hBs HA0 HA1 HA2 t0 tf q0 q1 q3
  have hBp := hB; have hBs := hB.size; clear hB
  have q0 : w7.cell? ⟨w.heap.size + 1, 0, none⟩ = some (.int .i64 q.kind) := Kit.cell A1 0 _ rfl
  have q1 : w7.cell? ⟨w.heap.size + 1, 1, none⟩ = some (.int .u16 q.addr) := Kit.cell A1 1 _ rfl
  have q3 : w7.cell? ⟨w.heap.size + 1, 3, none⟩ = some (.int .i64 q.len) := Kit.cell A1 3 _ rfl
  have t0 : w7.cell? ⟨w.heap.size + 2, 0, none⟩ = some (.int .i64 (s.go_ (s.go_ t + 1) + 1 + 1)) := Kit.cell A2 0 _ rfl
  have tf : w7.frozen? ⟨w.heap.size + 2, 0, none⟩ = false := Kit.frz A2 0
  have HA0 := Lib.hid A0; have HA1 := Lib.hid A1; have HA2 := Lib.hid A2; clear A0 A1 A2
  rw [rounds_succ]
  go_wp2_with fail
  generalize hW : w7.setCell ⟨w.heap.size + 1 + 1, 0, none⟩ (.int .i64 (s.go_ (s.go_ t + 1) + 1 + 1 + 1)) = w8
  have A0 : w8.heap[w.heap.size]? = some (.cells s.vals 40 (0, 0)) := by rw [← hW]; exact Kit.set_far HA0.out _ (by simp; omega) _
  have A1 : w8.heap[w.heap.size + 1]? = some (.cells q.vals 46 (0, 0)) := by rw [← hW]; exact Kit.set_far HA1.out _ (by simp) _
  have A2 : w8.heap[w.heap.size + 2]? = some (.cells #[.int .i64 (s.go_ (s.go_ t + 1) + 1 + 1 + 1)] 2 (0, 0)) := by rw [← hW]; exact Kit.set_ HA2.out 0 _ rfl
  have hB : Below w.heap.size w w8 := by rw [← hW]; exact hBp.setCell (by simp; omega) _
  clear hW hBp hBs HA0 HA1 HA2 t0 tf q0 q1 q3
  have hBp := hB; have hBs := hB.size; clear hB
  have q0 : w8.cell? ⟨w.heap.size + 1, 0, none⟩ = some (.int .i64 q.kind) := Kit.cell A1 0 _ rfl
  have q1 : w8.cell? ⟨w.heap.size + 1, 1, none⟩ = some (.int .u16 q.addr) := Kit.cell A1 1 _ rfl
  have q3 : w8.cell? ⟨w.heap.size + 1, 3, none⟩ = some (.int .i64 q.len) := Kit.cell A1 3 _ rfl
  have t0 : w8.cell? ⟨w.heap.size + 2, 0, none⟩ = some (.int .i64 (s.go_ (s.go_ t + 1) + 1 + 1 + 1)) := Kit.cell A2 0 _ rfl
  have tf : w8.frozen? ⟨w.heap.size + 2, 0, none⟩ = false := Kit.frz A2 0
  have HA0 := Lib.hid A0; have HA1 := Lib.hid A1; have HA2 := Lib.hid A2; clear A0 A1 A2
  rw [rounds_succ]
  go_wp2_with fail
  go_region
  go_wp2_with fail
  go_ret3
  exact ⟨by simp only [Scr.io]; rfl, hBp.drew⟩
set_option maxRecDepth 100000 in
set_option maxHeartbeats 1000000 in
theorem req_io4_true_false (s : Scr) (q : Rq) (t : Int) (h : s.ok = true) (hq : StepOk q) (h1 : 0 ≤ t) (h2 : t ≤ 1099511626776) (w : World) (k6 : (q.kind == 6) = false) (k4 : (q.kind == 4) = true) (a1 : 0 ≤ q.addr) (a2 : q.addr < 65536) (he : (q.addr % 2 == 0) = false) :
    Calls Try.prog 28 #[s.val, q.val, .bool true, .int .i64 t] w fun e w' => e = .returned (.tuple #[.int .i64 (s.io true false t |>.1), .int .i64 (s.io true false t |>.2), .int .i64 0]) ∧ Below w.heap.size w w' := by
  have ha := and1 q.addr a1 a2
  have hg0 := s.go_le (t)
  obtain ⟨ha0, hb0⟩ := hg0
  have hg1 := s.go_le (s.go_ t + 1)
  obtain ⟨ha1, hb1⟩ := hg1
  have hg2 := s.go_le (s.go_ (s.go_ t + 1) + 1)
  obtain ⟨ha2, hb2⟩ := hg2
  have hg3 := s.go_le (s.go_ (s.go_ (s.go_ t + 1) + 1) + 1)
  obtain ⟨ha3, hb3⟩ := hg3
  have hc := check_calls s
  rw [Scr.code_yes h] at hc
  have HC := Lib.hid hc; clear hc
  have HQ := Lib.hid hq; clear hq
  go_enter Try.func28, Try.ntmps28
  simp only [Scr.val, Scr.vals, Rq.val, Rq.vals]
  go_wp2_with fail
  refine (HC.out _).mono ?_; rintro e w1 ⟨rfl, hb⟩
  have A0 : w1.heap[w.heap.size]? = some (.cells s.vals 40 (0, 0)) := Kit.kept hb (Kit.blk3a _ _ _ _)
  have A1 : w1.heap[w.heap.size + 1]? = some (.cells q.vals 46 (0, 0)) := Kit.kept hb (Kit.blk3b _ _ _ _)
  have A2 : w1.heap[w.heap.size + 2]? = some (.cells #[.int .i64 t] 2 (0, 0)) := Kit.kept hb (Kit.blk3c _ _ _ _)
  have hB1 := Kit.then_ (Kit.below3 _ _ _ _) hb
  clear hb
  have q0 : w1.cell? ⟨w.heap.size + 1, 0, none⟩ = some (.int .i64 q.kind) := Kit.cell A1 0 _ rfl
  have q1 : w1.cell? ⟨w.heap.size + 1, 1, none⟩ = some (.int .u16 q.addr) := Kit.cell A1 1 _ rfl
  have q2 : w1.cell? ⟨w.heap.size + 1, 2, none⟩ = some (.int .u8 q.value) := Kit.cell A1 2 _ rfl
  have q3 : w1.cell? ⟨w.heap.size + 1, 3, none⟩ = some (.int .i64 q.len) := Kit.cell A1 3 _ rfl
  have HA0 := Lib.hid A0; have HA1 := Lib.hid A1; have HA2 := Lib.hid A2; clear A0 A1 A2
  have HB1 := Lib.hid hB1; clear hB1
  go_wp2_with fail
  refine (HQ.out _).mono ?_; rintro e w2 ⟨rfl, hb⟩
  clear q0 q1 q2 q3
  have A0 := Kit.kept hb HA0.out
  have A1 := Kit.kept hb HA1.out
  have A2 := Kit.kept hb HA2.out
  have hB2 := Kit.then_ HB1.out hb
  clear hb HA0 HA1 HA2 HB1
  have q0 : w2.cell? ⟨w.heap.size + 1, 0, none⟩ = some (.int .i64 q.kind) := Kit.cell A1 0 _ rfl
  have q1 : w2.cell? ⟨w.heap.size + 1, 1, none⟩ = some (.int .u16 q.addr) := Kit.cell A1 1 _ rfl
  have q3 : w2.cell? ⟨w.heap.size + 1, 3, none⟩ = some (.int .i64 q.len) := Kit.cell A1 3 _ rfl
  have t0 : w2.cell? ⟨w.heap.size + 2, 0, none⟩ = some (.int .i64 (t)) := Kit.cell A2 0 _ rfl
  have tf : w2.frozen? ⟨w.heap.size + 2, 0, none⟩ = false := Kit.frz A2 0
  have HA0 := Lib.hid A0; have HA1 := Lib.hid A1; have HA2 := Lib.hid A2; clear A0 A1 A2
  have d1 : decide (t < 0) = false := decide_eq_false (by omega)
  have d2 : decide (1099511626776 < t) = false := decide_eq_false (by omega)
  have hBs := hB2.size
  have hBp := hB2; clear hB2
  go_wp2_with fail
  refine wp_loop_rounds 5 ?_
  rw [rounds_succ]
  go_wp2_with fail
  refine (wait_closure s (t) h (by omega) (by omega) _ (w.heap.size + 2) w.heap.size HA2.out HA0.out (by omega)).mono ?_; rintro e w3 ⟨rfl, A2, hb⟩
  change w3.heap[w.heap.size + 2]? = some (.cells #[.int .i64 (s.go_ t)] 2 (0, 0)) at A2
  have A0 := hb.blk HA0.out (by omega)
  have A1 := hb.blk HA1.out (by omega)
  have hB := Kit.But.below hBp hb (by omega) hBs
  have hBs2 : w.heap.size ≤ w3.heap.size := hB.size
  clear hb hBp hBs HA0 HA1 HA2 t0 tf q0 q1 q3
  have hBp := hB; have hBs := hBs2; clear hB hBs2
  have q0 : w3.cell? ⟨w.heap.size + 1, 0, none⟩ = some (.int .i64 q.kind) := Kit.cell A1 0 _ rfl
  have q1 : w3.cell? ⟨w.heap.size + 1, 1, none⟩ = some (.int .u16 q.addr) := Kit.cell A1 1 _ rfl
  have q3 : w3.cell? ⟨w.heap.size + 1, 3, none⟩ = some (.int .i64 q.len) := Kit.cell A1 3 _ rfl
  have t0 : w3.cell? ⟨w.heap.size + 2, 0, none⟩ = some (.int .i64 (s.go_ t)) := Kit.cell A2 0 _ rfl
  have tf : w3.frozen? ⟨w.heap.size + 2, 0, none⟩ = false := Kit.frz A2 0
  have HA0 := Lib.hid A0; have HA1 := Lib.hid A1; have HA2 := Lib.hid A2; clear A0 A1 A2
  go_wp2_with fail
  generalize hW : w3.setCell ⟨w.heap.size + 1 + 1, 0, none⟩ (.int .i64 (s.go_ t + 1)) = w4
  have A0 : w4.heap[w.heap.size]? = some (.cells s.vals 40 (0, 0)) := by rw [← hW]; exact Kit.set_far HA0.out _ (by simp; omega) _
  have A1 : w4.heap[w.heap.size + 1]? = some (.cells q.vals 46 (0, 0)) := by rw [← hW]; exact Kit.set_far HA1.out _ (by simp) _
  have A2 : w4.heap[w.heap.size + 2]? = some (.cells #[.int .i64 (s.go_ t + 1)] 2 (0, 0)) := by rw [← hW]; exact Kit.set_ HA2.out 0 _ rfl
  have hB : Below w.heap.size w w4 := by rw [← hW]; exact hBp.setCell (by simp; omega) _
  clear hW hBp hBs HA0 HA1 HA2 t0 tf q0 q1 q3
  have hBp := hB; have hBs := hB.size; clear hB
  have q0 : w4.cell? ⟨w.heap.size + 1, 0, none⟩ = some (.int .i64 q.kind) := Kit.cell A1 0 _ rfl
  have q1 : w4.cell? ⟨w.heap.size + 1, 1, none⟩ = some (.int .u16 q.addr) := Kit.cell A1 1 _ rfl
  have q3 : w4.cell? ⟨w.heap.size + 1, 3, none⟩ = some (.int .i64 q.len) := Kit.cell A1 3 _ rfl
  have t0 : w4.cell? ⟨w.heap.size + 2, 0, none⟩ = some (.int .i64 (s.go_ t + 1)) := Kit.cell A2 0 _ rfl
  have tf : w4.frozen? ⟨w.heap.size + 2, 0, none⟩ = false := Kit.frz A2 0
  have HA0 := Lib.hid A0; have HA1 := Lib.hid A1; have HA2 := Lib.hid A2; clear A0 A1 A2
  rw [rounds_succ]
  go_wp2_with fail
  refine (wait_closure s (s.go_ t + 1) h (by omega) (by omega) _ (w.heap.size + 2) w.heap.size HA2.out HA0.out (by omega)).mono ?_; rintro e w5 ⟨rfl, A2, hb⟩
  change w5.heap[w.heap.size + 2]? = some (.cells #[.int .i64 (s.go_ (s.go_ t + 1))] 2 (0, 0)) at A2
  have A0 := hb.blk HA0.out (by omega)
  have A1 := hb.blk HA1.out (by omega)
  have hB := Kit.But.below hBp hb (by omega) hBs
  have hBs2 : w.heap.size ≤ w5.heap.size := hB.size
  clear hb hBp hBs HA0 HA1 HA2 t0 tf q0 q1 q3
  have hBp := hB; have hBs := hBs2; clear hB hBs2
  have q0 : w5.cell? ⟨w.heap.size + 1, 0, none⟩ = some (.int .i64 q.kind) := Kit.cell A1 0 _ rfl
  have q1 : w5.cell? ⟨w.heap.size + 1, 1, none⟩ = some (.int .u16 q.addr) := Kit.cell A1 1 _ rfl
  have q3 : w5.cell? ⟨w.heap.size + 1, 3, none⟩ = some (.int .i64 q.len) := Kit.cell A1 3 _ rfl
  have t0 : w5.cell? ⟨w.heap.size + 2, 0, none⟩ = some (.int .i64 (s.go_ (s.go_ t + 1))) := Kit.cell A2 0 _ rfl
  have tf : w5.frozen? ⟨w.heap.size + 2, 0, none⟩ = false := Kit.frz A2 0
  have HA0 := Lib.hid A0; have HA1 := Lib.hid A1; have HA2 := Lib.hid A2; clear A0 A1 A2
  go_wp2_with fail
  generalize hW : w5.setCell ⟨w.heap.size + 1 + 1, 0, none⟩ (.int .i64 (s.go_ (s.go_ t + 1) + 1)) = w6
  have A0 : w6.heap[w.heap.size]? = some (.cells s.vals 40 (0, 0)) := by rw [← hW]; exact Kit.set_far HA0.out _ (by simp; omega) _
  have A1 : w6.heap[w.heap.size + 1]? = some (.cells q.vals 46 (0, 0)) := by rw [← hW]; exact Kit.set_far HA1.out _ (by simp) _
  have A2 : w6.heap[w.heap.size + 2]? = some (.cells #[.int .i64 (s.go_ (s.go_ t + 1) + 1)] 2 (0, 0)) := by rw [← hW]; exact Kit.set_ HA2.out 0 _ rfl
  have hB : Below w.heap.size w w6 := by rw [← hW]; exact hBp.setCell (by simp; omega) _
  clear hW hBp hBs HA0 HA1 HA2 t0 tf q0 q1 q3
  have hBp := hB; have hBs := hB.size; clear hB
  have q0 : w6.cell? ⟨w.heap.size + 1, 0, none⟩ = some (.int .i64 q.kind) := Kit.cell A1 0 _ rfl
  have q1 : w6.cell? ⟨w.heap.size + 1, 1, none⟩ = some (.int .u16 q.addr) := Kit.cell A1 1 _ rfl
  have q3 : w6.cell? ⟨w.heap.size + 1, 3, none⟩ = some (.int .i64 q.len) := Kit.cell A1 3 _ rfl
  have t0 : w6.cell? ⟨w.heap.size + 2, 0, none⟩ = some (.int .i64 (s.go_ (s.go_ t + 1) + 1)) := Kit.cell A2 0 _ rfl
  have tf : w6.frozen? ⟨w.heap.size + 2, 0, none⟩ = false := Kit.frz A2 0
  have HA0 := Lib.hid A0; have HA1 := Lib.hid A1; have HA2 := Lib.hid A2; clear A0 A1 A2
  rw [rounds_succ]
  go_wp2_with fail
  refine (wait_closure s (s.go_ (s.go_ t + 1) + 1) h (by omega) (by omega) _ (w.heap.size + 2) w.heap.size HA2.out HA0.out (by omega)).mono ?_; rintro e w7 ⟨rfl, A2, hb⟩
  change w7.heap[w.heap.size + 2]? = some (.cells #[.int .i64 (s.go_ (s.go_ (s.go_ t + 1) + 1))] 2 (0, 0)) at A2
  have A0 := hb.blk HA0.out (by omega)
  have A1 := hb.blk HA1.out (by omega)
  have hB := Kit.But.below hBp hb (by omega) hBs
  have hBs2 : w.heap.size ≤ w7.heap.size := hB.size
  clear hb hBp hBs HA0 HA1 HA2 t0 tf q0 q1 q3
  have hBp := hB; have hBs := hBs2; clear hB hBs2
  have q0 : w7.cell? ⟨w.heap.size + 1, 0, none⟩ = some (.int .i64 q.kind) := Kit.cell A1 0 _ rfl
  have q1 : w7.cell? ⟨w.heap.size + 1, 1, none⟩ = some (.int .u16 q.addr) := Kit.cell A1 1 _ rfl
  have q3 : w7.cell? ⟨w.heap.size + 1, 3, none⟩ = some (.int .i64 q.len) := Kit.cell A1 3 _ rfl
  have t0 : w7.cell? ⟨w.heap.size + 2, 0, none⟩ = some (.int .i64 (s.go_ (s.go_ (s.go_ t + 1) + 1))) := Kit.cell A2 0 _ rfl
  have tf : w7.frozen? ⟨w.heap.size + 2, 0, none⟩ = false := Kit.frz A2 0
  have HA0 := Lib.hid A0; have HA1 := Lib.hid A1; have HA2 := Lib.hid A2; clear A0 A1 A2
  go_wp2_with fail
  generalize hW : w7.setCell ⟨w.heap.size + 1 + 1, 0, none⟩ (.int .i64 (s.go_ (s.go_ (s.go_ t + 1) + 1) + 1)) = w8
  have A0 : w8.heap[w.heap.size]? = some (.cells s.vals 40 (0, 0)) := by rw [← hW]; exact Kit.set_far HA0.out _ (by simp; omega) _
  have A1 : w8.heap[w.heap.size + 1]? = some (.cells q.vals 46 (0, 0)) := by rw [← hW]; exact Kit.set_far HA1.out _ (by simp) _
  have A2 : w8.heap[w.heap.size + 2]? = some (.cells #[.int .i64 (s.go_ (s.go_ (s.go_ t + 1) + 1) + 1)] 2 (0, 0)) := by rw [← hW]; exact Kit.set_ HA2.out 0 _ rfl
  have hB : Below w.heap.size w w8 := by rw [← hW]; exact hBp.setCell (by simp; omega) _
  clear hW hBp hBs HA0 HA1 HA2 t0 tf q0 q1 q3
  have hBp := hB; have hBs := hB.size; clear hB
  have q0 : w8.cell? ⟨w.heap.size + 1, 0, none⟩ = some (.int .i64 q.kind) := Kit.cell A1 0 _ rfl
  have q1 : w8.cell? ⟨w.heap.size + 1, 1, none⟩ = some (.int .u16 q.addr) := Kit.cell A1 1 _ rfl
  have q3 : w8.cell? ⟨w.heap.size + 1, 3, none⟩ = some (.int .i64 q.len) := Kit.cell A1 3 _ rfl
  have t0 : w8.cell? ⟨w.heap.size + 2, 0, none⟩ = some (.int .i64 (s.go_ (s.go_ (s.go_ t + 1) + 1) + 1)) := Kit.cell A2 0 _ rfl
  have tf : w8.frozen? ⟨w.heap.size + 2, 0, none⟩ = false := Kit.frz A2 0
  have HA0 := Lib.hid A0; have HA1 := Lib.hid A1; have HA2 := Lib.hid A2; clear A0 A1 A2
  rw [rounds_succ]
  go_wp2_with fail
  refine (wait_closure s (s.go_ (s.go_ (s.go_ t + 1) + 1) + 1) h (by omega) (by omega) _ (w.heap.size + 2) w.heap.size HA2.out HA0.out (by omega)).mono ?_; rintro e w9 ⟨rfl, A2, hb⟩
  change w9.heap[w.heap.size + 2]? = some (.cells #[.int .i64 (s.go_ (s.go_ (s.go_ (s.go_ t + 1) + 1) + 1))] 2 (0, 0)) at A2
  have A0 := hb.blk HA0.out (by omega)
  have A1 := hb.blk HA1.out (by omega)
  have hB := Kit.But.below hBp hb (by omega) hBs
  have hBs2 : w.heap.size ≤ w9.heap.size := hB.size
  clear hb hBp hBs HA0 HA1 HA2 t0 tf q0 q1 q3
  have hBp := hB; have hBs := hBs2; clear hB hBs2
  have q0 : w9.cell? ⟨w.heap.size + 1, 0, none⟩ = some (.int .i64 q.kind) := Kit.cell A1 0 _ rfl
  have q1 : w9.cell? ⟨w.heap.size + 1, 1, none⟩ = some (.int .u16 q.addr) := Kit.cell A1 1 _ rfl
  have q3 : w9.cell? ⟨w.heap.size + 1, 3, none⟩ = some (.int .i64 q.len) := Kit.cell A1 3 _ rfl
  have t0 : w9.cell? ⟨w.heap.size + 2, 0, none⟩ = some (.int .i64 (s.go_ (s.go_ (s.go_ (s.go_ t + 1) + 1) + 1))) := Kit.cell A2 0 _ rfl
  have tf : w9.frozen? ⟨w.heap.size + 2, 0, none⟩ = false := Kit.frz A2 0
  have HA0 := Lib.hid A0; have HA1 := Lib.hid A1; have HA2 := Lib.hid A2; clear A0 A1 A2
  go_wp2_with fail
  generalize hW : w9.setCell ⟨w.heap.size + 1 + 1, 0, none⟩ (.int .i64 (s.go_ (s.go_ (s.go_ (s.go_ t + 1) + 1) + 1) + 1)) = w10
  have A0 : w10.heap[w.heap.size]? = some (.cells s.vals 40 (0, 0)) := by rw [← hW]; exact Kit.set_far HA0.out _ (by simp; omega) _
  have A1 : w10.heap[w.heap.size + 1]? = some (.cells q.vals 46 (0, 0)) := by rw [← hW]; exact Kit.set_far HA1.out _ (by simp) _
  have A2 : w10.heap[w.heap.size + 2]? = some (.cells #[.int .i64 (s.go_ (s.go_ (s.go_ (s.go_ t + 1) + 1) + 1) + 1)] 2 (0, 0)) := by rw [← hW]; exact Kit.set_ HA2.out 0 _ rfl
  have hB : Below w.heap.size w w10 := by rw [← hW]; exact hBp.setCell (by simp; omega) _
  clear hW hBp hBs HA0 HA1 HA2 t0 tf q0 q1 q3
  have hBp := hB; have hBs := hB.size; clear hB
  have q0 : w10.cell? ⟨w.heap.size + 1, 0, none⟩ = some (.int .i64 q.kind) := Kit.cell A1 0 _ rfl
  have q1 : w10.cell? ⟨w.heap.size + 1, 1, none⟩ = some (.int .u16 q.addr) := Kit.cell A1 1 _ rfl
  have q3 : w10.cell? ⟨w.heap.size + 1, 3, none⟩ = some (.int .i64 q.len) := Kit.cell A1 3 _ rfl
  have t0 : w10.cell? ⟨w.heap.size + 2, 0, none⟩ = some (.int .i64 (s.go_ (s.go_ (s.go_ (s.go_ t + 1) + 1) + 1) + 1)) := Kit.cell A2 0 _ rfl
  have tf : w10.frozen? ⟨w.heap.size + 2, 0, none⟩ = false := Kit.frz A2 0
  have HA0 := Lib.hid A0; have HA1 := Lib.hid A1; have HA2 := Lib.hid A2; clear A0 A1 A2
  rw [rounds_succ]
  go_wp2_with fail
  go_region
  go_wp2_with fail
  go_ret3
  exact ⟨by simp only [Scr.io]; rfl, hBp.drew⟩
set_option maxRecDepth 100000 in
set_option maxHeartbeats 1000000 in
theorem req_io4_false_true (s : Scr) (q : Rq) (t : Int) (h : s.ok = true) (hq : StepOk q) (h1 : 0 ≤ t) (h2 : t ≤ 1099511626776) (w : World) (k6 : (q.kind == 6) = false) (k4 : (q.kind == 4) = true) (a1 : 0 ≤ q.addr) (a2 : q.addr < 65536) (he : (q.addr % 2 == 0) = true) :
    Calls Try.prog 28 #[s.val, q.val, .bool false, .int .i64 t] w fun e w' => e = .returned (.tuple #[.int .i64 (s.io false true t |>.1), .int .i64 (s.io false true t |>.2), .int .i64 0]) ∧ Below w.heap.size w w' := by
  have ha := and1 q.addr a1 a2
  have hg0 := s.go_le (t + 1)
  obtain ⟨ha0, hb0⟩ := hg0
  have hc := check_calls s
  rw [Scr.code_yes h] at hc
  have HC := Lib.hid hc; clear hc
  have HQ := Lib.hid hq; clear hq
  go_enter Try.func28, Try.ntmps28
  simp only [Scr.val, Scr.vals, Rq.val, Rq.vals]
  go_wp2_with fail
  refine (HC.out _).mono ?_; rintro e w1 ⟨rfl, hb⟩
  have A0 : w1.heap[w.heap.size]? = some (.cells s.vals 40 (0, 0)) := Kit.kept hb (Kit.blk3a _ _ _ _)
  have A1 : w1.heap[w.heap.size + 1]? = some (.cells q.vals 46 (0, 0)) := Kit.kept hb (Kit.blk3b _ _ _ _)
  have A2 : w1.heap[w.heap.size + 2]? = some (.cells #[.int .i64 t] 2 (0, 0)) := Kit.kept hb (Kit.blk3c _ _ _ _)
  have hB1 := Kit.then_ (Kit.below3 _ _ _ _) hb
  clear hb
  have q0 : w1.cell? ⟨w.heap.size + 1, 0, none⟩ = some (.int .i64 q.kind) := Kit.cell A1 0 _ rfl
  have q1 : w1.cell? ⟨w.heap.size + 1, 1, none⟩ = some (.int .u16 q.addr) := Kit.cell A1 1 _ rfl
  have q2 : w1.cell? ⟨w.heap.size + 1, 2, none⟩ = some (.int .u8 q.value) := Kit.cell A1 2 _ rfl
  have q3 : w1.cell? ⟨w.heap.size + 1, 3, none⟩ = some (.int .i64 q.len) := Kit.cell A1 3 _ rfl
  have HA0 := Lib.hid A0; have HA1 := Lib.hid A1; have HA2 := Lib.hid A2; clear A0 A1 A2
  have HB1 := Lib.hid hB1; clear hB1
  go_wp2_with fail
  refine (HQ.out _).mono ?_; rintro e w2 ⟨rfl, hb⟩
  clear q0 q1 q2 q3
  have A0 := Kit.kept hb HA0.out
  have A1 := Kit.kept hb HA1.out
  have A2 := Kit.kept hb HA2.out
  have hB2 := Kit.then_ HB1.out hb
  clear hb HA0 HA1 HA2 HB1
  have q0 : w2.cell? ⟨w.heap.size + 1, 0, none⟩ = some (.int .i64 q.kind) := Kit.cell A1 0 _ rfl
  have q1 : w2.cell? ⟨w.heap.size + 1, 1, none⟩ = some (.int .u16 q.addr) := Kit.cell A1 1 _ rfl
  have q3 : w2.cell? ⟨w.heap.size + 1, 3, none⟩ = some (.int .i64 q.len) := Kit.cell A1 3 _ rfl
  have t0 : w2.cell? ⟨w.heap.size + 2, 0, none⟩ = some (.int .i64 (t)) := Kit.cell A2 0 _ rfl
  have tf : w2.frozen? ⟨w.heap.size + 2, 0, none⟩ = false := Kit.frz A2 0
  have HA0 := Lib.hid A0; have HA1 := Lib.hid A1; have HA2 := Lib.hid A2; clear A0 A1 A2
  have d1 : decide (t < 0) = false := decide_eq_false (by omega)
  have d2 : decide (1099511626776 < t) = false := decide_eq_false (by omega)
  have hBs := hB2.size
  have hBp := hB2; clear hB2
  go_wp2_with fail
  refine wp_loop_rounds 5 ?_
  rw [rounds_succ]
  go_wp2_with fail
  generalize hW : w2.setCell ⟨w.heap.size + 1 + 1, 0, none⟩ (.int .i64 (t + 1)) = w3
  have A0 : w3.heap[w.heap.size]? = some (.cells s.vals 40 (0, 0)) := by rw [← hW]; exact Kit.set_far HA0.out _ (by simp; omega) _
  have A1 : w3.heap[w.heap.size + 1]? = some (.cells q.vals 46 (0, 0)) := by rw [← hW]; exact Kit.set_far HA1.out _ (by simp) _
  have A2 : w3.heap[w.heap.size + 2]? = some (.cells #[.int .i64 (t + 1)] 2 (0, 0)) := by rw [← hW]; exact Kit.set_ HA2.out 0 _ rfl
  have hB : Below w.heap.size w w3 := by rw [← hW]; exact hBp.setCell (by simp; omega) _
  clear hW hBp hBs HA0 HA1 HA2 t0 tf q0 q1 q3
  have hBp := hB; have hBs := hB.size; clear hB
  have q0 : w3.cell? ⟨w.heap.size + 1, 0, none⟩ = some (.int .i64 q.kind) := Kit.cell A1 0 _ rfl
  have q1 : w3.cell? ⟨w.heap.size + 1, 1, none⟩ = some (.int .u16 q.addr) := Kit.cell A1 1 _ rfl
  have q3 : w3.cell? ⟨w.heap.size + 1, 3, none⟩ = some (.int .i64 q.len) := Kit.cell A1 3 _ rfl
  have t0 : w3.cell? ⟨w.heap.size + 2, 0, none⟩ = some (.int .i64 (t + 1)) := Kit.cell A2 0 _ rfl
  have tf : w3.frozen? ⟨w.heap.size + 2, 0, none⟩ = false := Kit.frz A2 0
  have HA0 := Lib.hid A0; have HA1 := Lib.hid A1; have HA2 := Lib.hid A2; clear A0 A1 A2
  rw [rounds_succ]
  go_wp2_with fail
  refine (wait_closure s (t + 1) h (by omega) (by omega) _ (w.heap.size + 2) w.heap.size HA2.out HA0.out (by omega)).mono ?_; rintro e w4 ⟨rfl, A2, hb⟩
  change w4.heap[w.heap.size + 2]? = some (.cells #[.int .i64 (s.go_ (t + 1))] 2 (0, 0)) at A2
  have A0 := hb.blk HA0.out (by omega)
  have A1 := hb.blk HA1.out (by omega)
  have hB := Kit.But.below hBp hb (by omega) hBs
  have hBs2 : w.heap.size ≤ w4.heap.size := hB.size
  clear hb hBp hBs HA0 HA1 HA2 t0 tf q0 q1 q3
  have hBp := hB; have hBs := hBs2; clear hB hBs2
  have q0 : w4.cell? ⟨w.heap.size + 1, 0, none⟩ = some (.int .i64 q.kind) := Kit.cell A1 0 _ rfl
  have q1 : w4.cell? ⟨w.heap.size + 1, 1, none⟩ = some (.int .u16 q.addr) := Kit.cell A1 1 _ rfl
  have q3 : w4.cell? ⟨w.heap.size + 1, 3, none⟩ = some (.int .i64 q.len) := Kit.cell A1 3 _ rfl
  have t0 : w4.cell? ⟨w.heap.size + 2, 0, none⟩ = some (.int .i64 (s.go_ (t + 1))) := Kit.cell A2 0 _ rfl
  have tf : w4.frozen? ⟨w.heap.size + 2, 0, none⟩ = false := Kit.frz A2 0
  have HA0 := Lib.hid A0; have HA1 := Lib.hid A1; have HA2 := Lib.hid A2; clear A0 A1 A2
  go_wp2_with fail
  generalize hW : w4.setCell ⟨w.heap.size + 1 + 1, 0, none⟩ (.int .i64 (s.go_ (t + 1) + 1)) = w5
  have A0 : w5.heap[w.heap.size]? = some (.cells s.vals 40 (0, 0)) := by rw [← hW]; exact Kit.set_far HA0.out _ (by simp; omega) _
  have A1 : w5.heap[w.heap.size + 1]? = some (.cells q.vals 46 (0, 0)) := by rw [← hW]; exact Kit.set_far HA1.out _ (by simp) _
  have A2 : w5.heap[w.heap.size + 2]? = some (.cells #[.int .i64 (s.go_ (t + 1) + 1)] 2 (0, 0)) := by rw [← hW]; exact Kit.set_ HA2.out 0 _ rfl
  have hB : Below w.heap.size w w5 := by rw [← hW]; exact hBp.setCell (by simp; omega) _
  clear hW hBp hBs HA0 HA1 HA2 t0 tf q0 q1 q3
  have hBp := hB; have hBs := hB.size; clear hB
  have q0 : w5.cell? ⟨w.heap.size + 1, 0, none⟩ = some (.int .i64 q.kind) := Kit.cell A1 0 _ rfl
  have q1 : w5.cell? ⟨w.heap.size + 1, 1, none⟩ = some (.int .u16 q.addr) := Kit.cell A1 1 _ rfl
  have q3 : w5.cell? ⟨w.heap.size + 1, 3, none⟩ = some (.int .i64 q.len) := Kit.cell A1 3 _ rfl
  have t0 : w5.cell? ⟨w.heap.size + 2, 0, none⟩ = some (.int .i64 (s.go_ (t + 1) + 1)) := Kit.cell A2 0 _ rfl
  have tf : w5.frozen? ⟨w.heap.size + 2, 0, none⟩ = false := Kit.frz A2 0
  have HA0 := Lib.hid A0; have HA1 := Lib.hid A1; have HA2 := Lib.hid A2; clear A0 A1 A2
  rw [rounds_succ]
  go_wp2_with fail
  generalize hW : w5.setCell ⟨w.heap.size + 1 + 1, 0, none⟩ (.int .i64 (s.go_ (t + 1) + 1 + 1)) = w6
  have A0 : w6.heap[w.heap.size]? = some (.cells s.vals 40 (0, 0)) := by rw [← hW]; exact Kit.set_far HA0.out _ (by simp; omega) _
  have A1 : w6.heap[w.heap.size + 1]? = some (.cells q.vals 46 (0, 0)) := by rw [← hW]; exact Kit.set_far HA1.out _ (by simp) _
  have A2 : w6.heap[w.heap.size + 2]? = some (.cells #[.int .i64 (s.go_ (t + 1) + 1 + 1)] 2 (0, 0)) := by rw [← hW]; exact Kit.set_ HA2.out 0 _ rfl
  have hB : Below w.heap.size w w6 := by rw [← hW]; exact hBp.setCell (by simp; omega) _
  clear hW hBp hBs HA0 HA1 HA2 t0 tf q0 q1 q3
  have hBp := hB; have hBs := hB.size; clear hB
  have q0 : w6.cell? ⟨w.heap.size + 1, 0, none⟩ = some (.int .i64 q.kind) := Kit.cell A1 0 _ rfl
  have q1 : w6.cell? ⟨w.heap.size + 1, 1, none⟩ = some (.int .u16 q.addr) := Kit.cell A1 1 _ rfl
  have q3 : w6.cell? ⟨w.heap.size + 1, 3, none⟩ = some (.int .i64 q.len) := Kit.cell A1 3 _ rfl
  have t0 : w6.cell? ⟨w.heap.size + 2, 0, none⟩ = some (.int .i64 (s.go_ (t + 1) + 1 + 1)) := Kit.cell A2 0 _ rfl
  have tf : w6.frozen? ⟨w.heap.size + 2, 0, none⟩ = false := Kit.frz A2 0
  have HA0 := Lib.hid A0; have HA1 := Lib.hid A1; have HA2 := Lib.hid A2; clear A0 A1 A2
  rw [rounds_succ]
  go_wp2_with fail
  generalize hW : w6.setCell ⟨w.heap.size + 1 + 1, 0, none⟩ (.int .i64 (s.go_ (t + 1) + 1 + 1 + 1)) = w7
  have A0 : w7.heap[w.heap.size]? = some (.cells s.vals 40 (0, 0)) := by rw [← hW]; exact Kit.set_far HA0.out _ (by simp; omega) _
  have A1 : w7.heap[w.heap.size + 1]? = some (.cells q.vals 46 (0, 0)) := by rw [← hW]; exact Kit.set_far HA1.out _ (by simp) _
  have A2 : w7.heap[w.heap.size + 2]? = some (.cells #[.int .i64 (s.go_ (t + 1) + 1 + 1 + 1)] 2 (0, 0)) := by rw [← hW]; exact Kit.set_ HA2.out 0 _ rfl
  have hB : Below w.heap.size w w7 := by rw [← hW]; exact hBp.setCell (by simp; omega) _
  clear hW hBp hBs HA0 HA1 HA2 t0 tf q0 q1 q3
  have hBp := hB; have hBs := hB.size; clear hB
  have q0 : w7.cell? ⟨w.heap.size + 1, 0, none⟩ = some (.int .i64 q.kind) := Kit.cell A1 0 _ rfl
  have q1 : w7.cell? ⟨w.heap.size + 1, 1, none⟩ = some (.int .u16 q.addr) := Kit.cell A1 1 _ rfl
  have q3 : w7.cell? ⟨w.heap.size + 1, 3, none⟩ = some (.int .i64 q.len) := Kit.cell A1 3 _ rfl
  have t0 : w7.cell? ⟨w.heap.size + 2, 0, none⟩ = some (.int .i64 (s.go_ (t + 1) + 1 + 1 + 1)) := Kit.cell A2 0 _ rfl
  have tf : w7.frozen? ⟨w.heap.size + 2, 0, none⟩ = false := Kit.frz A2 0
  have HA0 := Lib.hid A0; have HA1 := Lib.hid A1; have HA2 := Lib.hid A2; clear A0 A1 A2
  rw [rounds_succ]
  go_wp2_with fail
  go_region
  go_wp2_with fail
  go_ret3
  exact ⟨by simp only [Scr.io]; rfl, hBp.drew⟩
set_option maxRecDepth 100000 in
set_option maxHeartbeats 1000000 in
theorem req_io4_false_false (s : Scr) (q : Rq) (t : Int) (h : s.ok = true) (hq : StepOk q) (h1 : 0 ≤ t) (h2 : t ≤ 1099511626776) (w : World) (k6 : (q.kind == 6) = false) (k4 : (q.kind == 4) = true) (a1 : 0 ≤ q.addr) (a2 : q.addr < 65536) (he : (q.addr % 2 == 0) = false) :
    Calls Try.prog 28 #[s.val, q.val, .bool false, .int .i64 t] w fun e w' => e = .returned (.tuple #[.int .i64 (s.io false false t |>.1), .int .i64 (s.io false false t |>.2), .int .i64 0]) ∧ Below w.heap.size w w' := by
  have ha := and1 q.addr a1 a2
  have hc := check_calls s
  rw [Scr.code_yes h] at hc
  have HC := Lib.hid hc; clear hc
  have HQ := Lib.hid hq; clear hq
  go_enter Try.func28, Try.ntmps28
  simp only [Scr.val, Scr.vals, Rq.val, Rq.vals]
  go_wp2_with fail
  refine (HC.out _).mono ?_; rintro e w1 ⟨rfl, hb⟩
  have A0 : w1.heap[w.heap.size]? = some (.cells s.vals 40 (0, 0)) := Kit.kept hb (Kit.blk3a _ _ _ _)
  have A1 : w1.heap[w.heap.size + 1]? = some (.cells q.vals 46 (0, 0)) := Kit.kept hb (Kit.blk3b _ _ _ _)
  have A2 : w1.heap[w.heap.size + 2]? = some (.cells #[.int .i64 t] 2 (0, 0)) := Kit.kept hb (Kit.blk3c _ _ _ _)
  have hB1 := Kit.then_ (Kit.below3 _ _ _ _) hb
  clear hb
  have q0 : w1.cell? ⟨w.heap.size + 1, 0, none⟩ = some (.int .i64 q.kind) := Kit.cell A1 0 _ rfl
  have q1 : w1.cell? ⟨w.heap.size + 1, 1, none⟩ = some (.int .u16 q.addr) := Kit.cell A1 1 _ rfl
  have q2 : w1.cell? ⟨w.heap.size + 1, 2, none⟩ = some (.int .u8 q.value) := Kit.cell A1 2 _ rfl
  have q3 : w1.cell? ⟨w.heap.size + 1, 3, none⟩ = some (.int .i64 q.len) := Kit.cell A1 3 _ rfl
  have HA0 := Lib.hid A0; have HA1 := Lib.hid A1; have HA2 := Lib.hid A2; clear A0 A1 A2
  have HB1 := Lib.hid hB1; clear hB1
  go_wp2_with fail
  refine (HQ.out _).mono ?_; rintro e w2 ⟨rfl, hb⟩
  clear q0 q1 q2 q3
  have A0 := Kit.kept hb HA0.out
  have A1 := Kit.kept hb HA1.out
  have A2 := Kit.kept hb HA2.out
  have hB2 := Kit.then_ HB1.out hb
  clear hb HA0 HA1 HA2 HB1
  have q0 : w2.cell? ⟨w.heap.size + 1, 0, none⟩ = some (.int .i64 q.kind) := Kit.cell A1 0 _ rfl
  have q1 : w2.cell? ⟨w.heap.size + 1, 1, none⟩ = some (.int .u16 q.addr) := Kit.cell A1 1 _ rfl
  have q3 : w2.cell? ⟨w.heap.size + 1, 3, none⟩ = some (.int .i64 q.len) := Kit.cell A1 3 _ rfl
  have t0 : w2.cell? ⟨w.heap.size + 2, 0, none⟩ = some (.int .i64 (t)) := Kit.cell A2 0 _ rfl
  have tf : w2.frozen? ⟨w.heap.size + 2, 0, none⟩ = false := Kit.frz A2 0
  have HA0 := Lib.hid A0; have HA1 := Lib.hid A1; have HA2 := Lib.hid A2; clear A0 A1 A2
  have d1 : decide (t < 0) = false := decide_eq_false (by omega)
  have d2 : decide (1099511626776 < t) = false := decide_eq_false (by omega)
  have hBs := hB2.size
  have hBp := hB2; clear hB2
  go_wp2_with fail
  refine wp_loop_rounds 5 ?_
  rw [rounds_succ]
  go_wp2_with fail
  generalize hW : w2.setCell ⟨w.heap.size + 1 + 1, 0, none⟩ (.int .i64 (t + 1)) = w3
  have A0 : w3.heap[w.heap.size]? = some (.cells s.vals 40 (0, 0)) := by rw [← hW]; exact Kit.set_far HA0.out _ (by simp; omega) _
  have A1 : w3.heap[w.heap.size + 1]? = some (.cells q.vals 46 (0, 0)) := by rw [← hW]; exact Kit.set_far HA1.out _ (by simp) _
  have A2 : w3.heap[w.heap.size + 2]? = some (.cells #[.int .i64 (t + 1)] 2 (0, 0)) := by rw [← hW]; exact Kit.set_ HA2.out 0 _ rfl
  have hB : Below w.heap.size w w3 := by rw [← hW]; exact hBp.setCell (by simp; omega) _
  clear hW hBp hBs HA0 HA1 HA2 t0 tf q0 q1 q3
  have hBp := hB; have hBs := hB.size; clear hB
  have q0 : w3.cell? ⟨w.heap.size + 1, 0, none⟩ = some (.int .i64 q.kind) := Kit.cell A1 0 _ rfl
  have q1 : w3.cell? ⟨w.heap.size + 1, 1, none⟩ = some (.int .u16 q.addr) := Kit.cell A1 1 _ rfl
  have q3 : w3.cell? ⟨w.heap.size + 1, 3, none⟩ = some (.int .i64 q.len) := Kit.cell A1 3 _ rfl
  have t0 : w3.cell? ⟨w.heap.size + 2, 0, none⟩ = some (.int .i64 (t + 1)) := Kit.cell A2 0 _ rfl
  have tf : w3.frozen? ⟨w.heap.size + 2, 0, none⟩ = false := Kit.frz A2 0
  have HA0 := Lib.hid A0; have HA1 := Lib.hid A1; have HA2 := Lib.hid A2; clear A0 A1 A2
  rw [rounds_succ]
  go_wp2_with fail
  generalize hW : w3.setCell ⟨w.heap.size + 1 + 1, 0, none⟩ (.int .i64 (t + 1 + 1)) = w4
  have A0 : w4.heap[w.heap.size]? = some (.cells s.vals 40 (0, 0)) := by rw [← hW]; exact Kit.set_far HA0.out _ (by simp; omega) _
  have A1 : w4.heap[w.heap.size + 1]? = some (.cells q.vals 46 (0, 0)) := by rw [← hW]; exact Kit.set_far HA1.out _ (by simp) _
  have A2 : w4.heap[w.heap.size + 2]? = some (.cells #[.int .i64 (t + 1 + 1)] 2 (0, 0)) := by rw [← hW]; exact Kit.set_ HA2.out 0 _ rfl
  have hB : Below w.heap.size w w4 := by rw [← hW]; exact hBp.setCell (by simp; omega) _
  clear hW hBp hBs HA0 HA1 HA2 t0 tf q0 q1 q3
  have hBp := hB; have hBs := hB.size; clear hB
  have q0 : w4.cell? ⟨w.heap.size + 1, 0, none⟩ = some (.int .i64 q.kind) := Kit.cell A1 0 _ rfl
  have q1 : w4.cell? ⟨w.heap.size + 1, 1, none⟩ = some (.int .u16 q.addr) := Kit.cell A1 1 _ rfl
  have q3 : w4.cell? ⟨w.heap.size + 1, 3, none⟩ = some (.int .i64 q.len) := Kit.cell A1 3 _ rfl
  have t0 : w4.cell? ⟨w.heap.size + 2, 0, none⟩ = some (.int .i64 (t + 1 + 1)) := Kit.cell A2 0 _ rfl
  have tf : w4.frozen? ⟨w.heap.size + 2, 0, none⟩ = false := Kit.frz A2 0
  have HA0 := Lib.hid A0; have HA1 := Lib.hid A1; have HA2 := Lib.hid A2; clear A0 A1 A2
  rw [rounds_succ]
  go_wp2_with fail
  generalize hW : w4.setCell ⟨w.heap.size + 1 + 1, 0, none⟩ (.int .i64 (t + 1 + 1 + 1)) = w5
  have A0 : w5.heap[w.heap.size]? = some (.cells s.vals 40 (0, 0)) := by rw [← hW]; exact Kit.set_far HA0.out _ (by simp; omega) _
  have A1 : w5.heap[w.heap.size + 1]? = some (.cells q.vals 46 (0, 0)) := by rw [← hW]; exact Kit.set_far HA1.out _ (by simp) _
  have A2 : w5.heap[w.heap.size + 2]? = some (.cells #[.int .i64 (t + 1 + 1 + 1)] 2 (0, 0)) := by rw [← hW]; exact Kit.set_ HA2.out 0 _ rfl
  have hB : Below w.heap.size w w5 := by rw [← hW]; exact hBp.setCell (by simp; omega) _
  clear hW hBp hBs HA0 HA1 HA2 t0 tf q0 q1 q3
  have hBp := hB; have hBs := hB.size; clear hB
  have q0 : w5.cell? ⟨w.heap.size + 1, 0, none⟩ = some (.int .i64 q.kind) := Kit.cell A1 0 _ rfl
  have q1 : w5.cell? ⟨w.heap.size + 1, 1, none⟩ = some (.int .u16 q.addr) := Kit.cell A1 1 _ rfl
  have q3 : w5.cell? ⟨w.heap.size + 1, 3, none⟩ = some (.int .i64 q.len) := Kit.cell A1 3 _ rfl
  have t0 : w5.cell? ⟨w.heap.size + 2, 0, none⟩ = some (.int .i64 (t + 1 + 1 + 1)) := Kit.cell A2 0 _ rfl
  have tf : w5.frozen? ⟨w.heap.size + 2, 0, none⟩ = false := Kit.frz A2 0
  have HA0 := Lib.hid A0; have HA1 := Lib.hid A1; have HA2 := Lib.hid A2; clear A0 A1 A2
  rw [rounds_succ]
  go_wp2_with fail
  generalize hW : w5.setCell ⟨w.heap.size + 1 + 1, 0, none⟩ (.int .i64 (t + 1 + 1 + 1 + 1)) = w6
  have A0 : w6.heap[w.heap.size]? = some (.cells s.vals 40 (0, 0)) := by rw [← hW]; exact Kit.set_far HA0.out _ (by simp; omega) _
  have A1 : w6.heap[w.heap.size + 1]? = some (.cells q.vals 46 (0, 0)) := by rw [← hW]; exact Kit.set_far HA1.out _ (by simp) _
  have A2 : w6.heap[w.heap.size + 2]? = some (.cells #[.int .i64 (t + 1 + 1 + 1 + 1)] 2 (0, 0)) := by rw [← hW]; exact Kit.set_ HA2.out 0 _ rfl
  have hB : Below w.heap.size w w6 := by rw [← hW]; exact hBp.setCell (by simp; omega) _
  clear hW hBp hBs HA0 HA1 HA2 t0 tf q0 q1 q3
  have hBp := hB; have hBs := hB.size; clear hB
  have q0 : w6.cell? ⟨w.heap.size + 1, 0, none⟩ = some (.int .i64 q.kind) := Kit.cell A1 0 _ rfl
  have q1 : w6.cell? ⟨w.heap.size + 1, 1, none⟩ = some (.int .u16 q.addr) := Kit.cell A1 1 _ rfl
  have q3 : w6.cell? ⟨w.heap.size + 1, 3, none⟩ = some (.int .i64 q.len) := Kit.cell A1 3 _ rfl
  have t0 : w6.cell? ⟨w.heap.size + 2, 0, none⟩ = some (.int .i64 (t + 1 + 1 + 1 + 1)) := Kit.cell A2 0 _ rfl
  have tf : w6.frozen? ⟨w.heap.size + 2, 0, none⟩ = false := Kit.frz A2 0
  have HA0 := Lib.hid A0; have HA1 := Lib.hid A1; have HA2 := Lib.hid A2; clear A0 A1 A2
  rw [rounds_succ]
  go_wp2_with fail
  go_region
  go_wp2_with fail
  go_ret3
  exact ⟨by simp only [Scr.io]; rfl, hBp.drew⟩
set_option maxRecDepth 100000 in
set_option maxHeartbeats 1000000 in
theorem req_io5_true_true (s : Scr) (q : Rq) (t : Int) (h : s.ok = true) (hq : StepOk q) (h1 : 0 ≤ t) (h2 : t ≤ 1099511626776) (w : World) (k6 : (q.kind == 6) = false) (k4 : (q.kind == 4) = false) (k5 : (q.kind == 5) = true) (a1 : 0 ≤ q.addr) (a2 : q.addr < 65536) (he : (q.addr % 2 == 0) = true) :
    Calls Try.prog 28 #[s.val, q.val, .bool true, .int .i64 t] w fun e w' => e = .returned (.tuple #[.int .i64 (s.io true true t |>.1), .int .i64 (s.io true true t |>.2), .int .i64 0]) ∧ Below w.heap.size w w' := by
  have ha := and1 q.addr a1 a2
  have hg0 := s.go_le (t)
  obtain ⟨ha0, hb0⟩ := hg0
  have hg1 := s.go_le (s.go_ t + 1)
  obtain ⟨ha1, hb1⟩ := hg1
  have hc := check_calls s
  rw [Scr.code_yes h] at hc
  have HC := Lib.hid hc; clear hc
  have HQ := Lib.hid hq; clear hq
  go_enter Try.func28, Try.ntmps28
  simp only [Scr.val, Scr.vals, Rq.val, Rq.vals]
  go_wp2_with fail
  refine (HC.out _).mono ?_; rintro e w1 ⟨rfl, hb⟩
  have A0 : w1.heap[w.heap.size]? = some (.cells s.vals 40 (0, 0)) := Kit.kept hb (Kit.blk3a _ _ _ _)
  have A1 : w1.heap[w.heap.size + 1]? = some (.cells q.vals 46 (0, 0)) := Kit.kept hb (Kit.blk3b _ _ _ _)
  have A2 : w1.heap[w.heap.size + 2]? = some (.cells #[.int .i64 t] 2 (0, 0)) := Kit.kept hb (Kit.blk3c _ _ _ _)
  have hB1 := Kit.then_ (Kit.below3 _ _ _ _) hb
  clear hb
  have q0 : w1.cell? ⟨w.heap.size + 1, 0, none⟩ = some (.int .i64 q.kind) := Kit.cell A1 0 _ rfl
  have q1 : w1.cell? ⟨w.heap.size + 1, 1, none⟩ = some (.int .u16 q.addr) := Kit.cell A1 1 _ rfl
  have q2 : w1.cell? ⟨w.heap.size + 1, 2, none⟩ = some (.int .u8 q.value) := Kit.cell A1 2 _ rfl
  have q3 : w1.cell? ⟨w.heap.size + 1, 3, none⟩ = some (.int .i64 q.len) := Kit.cell A1 3 _ rfl
  have HA0 := Lib.hid A0; have HA1 := Lib.hid A1; have HA2 := Lib.hid A2; clear A0 A1 A2
  have HB1 := Lib.hid hB1; clear hB1
  go_wp2_with fail
  refine (HQ.out _).mono ?_; rintro e w2 ⟨rfl, hb⟩
  clear q0 q1 q2 q3
  have A0 := Kit.kept hb HA0.out
  have A1 := Kit.kept hb HA1.out
  have A2 := Kit.kept hb HA2.out
  have hB2 := Kit.then_ HB1.out hb
  clear hb HA0 HA1 HA2 HB1
  have q0 : w2.cell? ⟨w.heap.size + 1, 0, none⟩ = some (.int .i64 q.kind) := Kit.cell A1 0 _ rfl
  have q1 : w2.cell? ⟨w.heap.size + 1, 1, none⟩ = some (.int .u16 q.addr) := Kit.cell A1 1 _ rfl
  have q3 : w2.cell? ⟨w.heap.size + 1, 3, none⟩ = some (.int .i64 q.len) := Kit.cell A1 3 _ rfl
  have t0 : w2.cell? ⟨w.heap.size + 2, 0, none⟩ = some (.int .i64 (t)) := Kit.cell A2 0 _ rfl
  have tf : w2.frozen? ⟨w.heap.size + 2, 0, none⟩ = false := Kit.frz A2 0
  have HA0 := Lib.hid A0; have HA1 := Lib.hid A1; have HA2 := Lib.hid A2; clear A0 A1 A2
  have d1 : decide (t < 0) = false := decide_eq_false (by omega)
  have d2 : decide (1099511626776 < t) = false := decide_eq_false (by omega)
  have hBs := hB2.size
  have hBp := hB2; clear hB2
  go_wp2_with fail
  refine wp_loop_rounds 5 ?_
  rw [rounds_succ]
  go_wp2_with fail
  refine (wait_closure s (t) h (by omega) (by omega) _ (w.heap.size + 2) w.heap.size HA2.out HA0.out (by omega)).mono ?_; rintro e w3 ⟨rfl, A2, hb⟩
  change w3.heap[w.heap.size + 2]? = some (.cells #[.int .i64 (s.go_ t)] 2 (0, 0)) at A2
  have A0 := hb.blk HA0.out (by omega)
  have A1 := hb.blk HA1.out (by omega)
  have hB := Kit.But.below hBp hb (by omega) hBs
  have hBs2 : w.heap.size ≤ w3.heap.size := hB.size
  clear hb hBp hBs HA0 HA1 HA2 t0 tf q0 q1 q3
  have hBp := hB; have hBs := hBs2; clear hB hBs2
  have q0 : w3.cell? ⟨w.heap.size + 1, 0, none⟩ = some (.int .i64 q.kind) := Kit.cell A1 0 _ rfl
  have q1 : w3.cell? ⟨w.heap.size + 1, 1, none⟩ = some (.int .u16 q.addr) := Kit.cell A1 1 _ rfl
  have q3 : w3.cell? ⟨w.heap.size + 1, 3, none⟩ = some (.int .i64 q.len) := Kit.cell A1 3 _ rfl
  have t0 : w3.cell? ⟨w.heap.size + 2, 0, none⟩ = some (.int .i64 (s.go_ t)) := Kit.cell A2 0 _ rfl
  have tf : w3.frozen? ⟨w.heap.size + 2, 0, none⟩ = false := Kit.frz A2 0
  have HA0 := Lib.hid A0; have HA1 := Lib.hid A1; have HA2 := Lib.hid A2; clear A0 A1 A2
  go_wp2_with fail
  generalize hW : w3.setCell ⟨w.heap.size + 1 + 1, 0, none⟩ (.int .i64 (s.go_ t + 1)) = w4
  have A0 : w4.heap[w.heap.size]? = some (.cells s.vals 40 (0, 0)) := by rw [← hW]; exact Kit.set_far HA0.out _ (by simp; omega) _
  have A1 : w4.heap[w.heap.size + 1]? = some (.cells q.vals 46 (0, 0)) := by rw [← hW]; exact Kit.set_far HA1.out _ (by simp) _
  have A2 : w4.heap[w.heap.size + 2]? = some (.cells #[.int .i64 (s.go_ t + 1)] 2 (0, 0)) := by rw [← hW]; exact Kit.set_ HA2.out 0 _ rfl
  have hB : Below w.heap.size w w4 := by rw [← hW]; exact hBp.setCell (by simp; omega) _
  clear hW hBp hBs HA0 HA1 HA2 t0 tf q0 q1 q3
  have hBp := hB; have hBs := hB.size; clear hB
  have q0 : w4.cell? ⟨w.heap.size + 1, 0, none⟩ = some (.int .i64 q.kind) := Kit.cell A1 0 _ rfl
  have q1 : w4.cell? ⟨w.heap.size + 1, 1, none⟩ = some (.int .u16 q.addr) := Kit.cell A1 1 _ rfl
  have q3 : w4.cell? ⟨w.heap.size + 1, 3, none⟩ = some (.int .i64 q.len) := Kit.cell A1 3 _ rfl
  have t0 : w4.cell? ⟨w.heap.size + 2, 0, none⟩ = some (.int .i64 (s.go_ t + 1)) := Kit.cell A2 0 _ rfl
  have tf : w4.frozen? ⟨w.heap.size + 2, 0, none⟩ = false := Kit.frz A2 0
  have HA0 := Lib.hid A0; have HA1 := Lib.hid A1; have HA2 := Lib.hid A2; clear A0 A1 A2
  rw [rounds_succ]
  go_wp2_with fail
  refine (wait_closure s (s.go_ t + 1) h (by omega) (by omega) _ (w.heap.size + 2) w.heap.size HA2.out HA0.out (by omega)).mono ?_; rintro e w5 ⟨rfl, A2, hb⟩
  change w5.heap[w.heap.size + 2]? = some (.cells #[.int .i64 (s.go_ (s.go_ t + 1))] 2 (0, 0)) at A2
  have A0 := hb.blk HA0.out (by omega)
  have A1 := hb.blk HA1.out (by omega)
  have hB := Kit.But.below hBp hb (by omega) hBs
  have hBs2 : w.heap.size ≤ w5.heap.size := hB.size
  clear hb hBp hBs HA0 HA1 HA2 t0 tf q0 q1 q3
  have hBp := hB; have hBs := hBs2; clear hB hBs2
  have q0 : w5.cell? ⟨w.heap.size + 1, 0, none⟩ = some (.int .i64 q.kind) := Kit.cell A1 0 _ rfl
  have q1 : w5.cell? ⟨w.heap.size + 1, 1, none⟩ = some (.int .u16 q.addr) := Kit.cell A1 1 _ rfl
  have q3 : w5.cell? ⟨w.heap.size + 1, 3, none⟩ = some (.int .i64 q.len) := Kit.cell A1 3 _ rfl
  have t0 : w5.cell? ⟨w.heap.size + 2, 0, none⟩ = some (.int .i64 (s.go_ (s.go_ t + 1))) := Kit.cell A2 0 _ rfl
  have tf : w5.frozen? ⟨w.heap.size + 2, 0, none⟩ = false := Kit.frz A2 0
  have HA0 := Lib.hid A0; have HA1 := Lib.hid A1; have HA2 := Lib.hid A2; clear A0 A1 A2
  go_wp2_with fail
  generalize hW : w5.setCell ⟨w.heap.size + 1 + 1, 0, none⟩ (.int .i64 (s.go_ (s.go_ t + 1) + 1)) = w6
  have A0 : w6.heap[w.heap.size]? = some (.cells s.vals 40 (0, 0)) := by rw [← hW]; exact Kit.set_far HA0.out _ (by simp; omega) _
  have A1 : w6.heap[w.heap.size + 1]? = some (.cells q.vals 46 (0, 0)) := by rw [← hW]; exact Kit.set_far HA1.out _ (by simp) _
  have A2 : w6.heap[w.heap.size + 2]? = some (.cells #[.int .i64 (s.go_ (s.go_ t + 1) + 1)] 2 (0, 0)) := by rw [← hW]; exact Kit.set_ HA2.out 0 _ rfl
  have hB : Below w.heap.size w w6 := by rw [← hW]; exact hBp.setCell (by simp; omega) _
  clear hW hBp hBs HA0 HA1 HA2 t0 tf q0 q1 q3
  have hBp := hB; have hBs := hB.size; clear hB
  have q0 : w6.cell? ⟨w.heap.size + 1, 0, none⟩ = some (.int .i64 q.kind) := Kit.cell A1 0 _ rfl
  have q1 : w6.cell? ⟨w.heap.size + 1, 1, none⟩ = some (.int .u16 q.addr) := Kit.cell A1 1 _ rfl
  have q3 : w6.cell? ⟨w.heap.size + 1, 3, none⟩ = some (.int .i64 q.len) := Kit.cell A1 3 _ rfl
  have t0 : w6.cell? ⟨w.heap.size + 2, 0, none⟩ = some (.int .i64 (s.go_ (s.go_ t + 1) + 1)) := Kit.cell A2 0 _ rfl
  have tf : w6.frozen? ⟨w.heap.size + 2, 0, none⟩ = false := Kit.frz A2 0
  have HA0 := Lib.hid A0; have HA1 := Lib.hid A1; have HA2 := Lib.hid A2; clear A0 A1 A2
  rw [rounds_succ]
  go_wp2_with fail
  generalize hW : w6.setCell ⟨w.heap.size + 1 + 1, 0, none⟩ (.int .i64 (s.go_ (s.go_ t + 1) + 1 + 1)) = w7
  have A0 : w7.heap[w.heap.size]? = some (.cells s.vals 40 (0, 0)) := by rw [← hW]; exact Kit.set_far HA0.out _ (by simp; omega) _
  have A1 : w7.heap[w.heap.size + 1]? = some (.cells q.vals 46 (0, 0)) := by rw [← hW]; exact Kit.set_far HA1.out _ (by simp) _
  have A2 : w7.heap[w.heap.size + 2]? = some (.cells #[.int .i64 (s.go_ (s.go_ t + 1) + 1 + 1)] 2 (0, 0)) := by rw [← hW]; exact Kit.set_ HA2.out 0 _ rfl
  have hB : Below w.heap.size w w7 := by rw [← hW]; exact hBp.setCell (by simp; omega) _
  clear hW hBp hBs HA0 HA1 HA2 t0 tf q0 q1 q3
  have hBp := hB; have hBs := hB.size; clear hB
  have q0 : w7.cell? ⟨w.heap.size + 1, 0, none⟩ = some (.int .i64 q.kind) := Kit.cell A1 0 _ rfl
  have q1 : w7.cell? ⟨w.heap.size + 1, 1, none⟩ = some (.int .u16 q.addr) := Kit.cell A1 1 _ rfl
  have q3 : w7.cell? ⟨w.heap.size + 1, 3, none⟩ = some (.int .i64 q.len) := Kit.cell A1 3 _ rfl
  have t0 : w7.cell? ⟨w.heap.size + 2, 0, none⟩ = some (.int .i64 (s.go_ (s.go_ t + 1) + 1 + 1)) := Kit.cell A2 0 _ rfl
  have tf : w7.frozen? ⟨w.heap.size + 2, 0, none⟩ = false := Kit.frz A2 0
  have HA0 := Lib.hid A0; have HA1 := Lib.hid A1; have HA2 := Lib.hid A2; clear A0 A1 A2
  rw [rounds_succ]
  go_wp2_with fail
  generalize hW : w7.setCell ⟨w.heap.size + 1 + 1, 0, none⟩ (.int .i64 (s.go_ (s.go_ t + 1) + 1 + 1 + 1)) = w8
  have A0 : w8.heap[w.heap.size]? = some (.cells s.vals 40 (0, 0)) := by rw [← hW]; exact Kit.set_far HA0.out _ (by simp; omega) _
  have A1 : w8.heap[w.heap.size + 1]? = some (.cells q.vals 46 (0, 0)) := by rw [← hW]; exact Kit.set_far HA1.out _ (by simp) _
  have A2 : w8.heap[w.heap.size + 2]? = some (.cells #[.int .i64 (s.go_ (s.go_ t + 1) + 1 + 1 + 1)] 2 (0, 0)) := by rw [← hW]; exact Kit.set_ HA2.out 0 _ rfl
  have hB : Below w.heap.size w w8 := by rw [← hW]; exact hBp.setCell (by simp; omega) _
  clear hW hBp hBs HA0 HA1 HA2 t0 tf q0 q1 q3
  have hBp := hB; have hBs := hB.size; clear hB
  have q0 : w8.cell? ⟨w.heap.size + 1, 0, none⟩ = some (.int .i64 q.kind) := Kit.cell A1 0 _ rfl
  have q1 : w8.cell? ⟨w.heap.size + 1, 1, none⟩ = some (.int .u16 q.addr) := Kit.cell A1 1 _ rfl
  have q3 : w8.cell? ⟨w.heap.size + 1, 3, none⟩ = some (.int .i64 q.len) := Kit.cell A1 3 _ rfl
  have t0 : w8.cell? ⟨w.heap.size + 2, 0, none⟩ = some (.int .i64 (s.go_ (s.go_ t + 1) + 1 + 1 + 1)) := Kit.cell A2 0 _ rfl
  have tf : w8.frozen? ⟨w.heap.size + 2, 0, none⟩ = false := Kit.frz A2 0
  have HA0 := Lib.hid A0; have HA1 := Lib.hid A1; have HA2 := Lib.hid A2; clear A0 A1 A2
  rw [rounds_succ]
  go_wp2_with fail
  go_region
  go_wp2_with fail
  go_ret3
  exact ⟨by simp only [Scr.io]; rfl, hBp.drew⟩
set_option maxRecDepth 100000 in
set_option maxHeartbeats 1000000 in
theorem req_io5_true_false (s : Scr) (q : Rq) (t : Int) (h : s.ok = true) (hq : StepOk q) (h1 : 0 ≤ t) (h2 : t ≤ 1099511626776) (w : World) (k6 : (q.kind == 6) = false) (k4 : (q.kind == 4) = false) (k5 : (q.kind == 5) = true) (a1 : 0 ≤ q.addr) (a2 : q.addr < 65536) (he : (q.addr % 2 == 0) = false) :
    Calls Try.prog 28 #[s.val, q.val, .bool true, .int .i64 t] w fun e w' => e = .returned (.tuple #[.int .i64 (s.io true false t |>.1), .int .i64 (s.io true false t |>.2), .int .i64 0]) ∧ Below w.heap.size w w' := by
  have ha := and1 q.addr a1 a2
  have hg0 := s.go_le (t)
  obtain ⟨ha0, hb0⟩ := hg0
  have hg1 := s.go_le (s.go_ t + 1)
  obtain ⟨ha1, hb1⟩ := hg1
  have hg2 := s.go_le (s.go_ (s.go_ t + 1) + 1)
  obtain ⟨ha2, hb2⟩ := hg2
  have hg3 := s.go_le (s.go_ (s.go_ (s.go_ t + 1) + 1) + 1)
  obtain ⟨ha3, hb3⟩ := hg3
  have hc := check_calls s
  rw [Scr.code_yes h] at hc
  have HC := Lib.hid hc; clear hc
  have HQ := Lib.hid hq; clear hq
  go_enter Try.func28, Try.ntmps28
  simp only [Scr.val, Scr.vals, Rq.val, Rq.vals]
  go_wp2_with fail
  refine (HC.out _).mono ?_; rintro e w1 ⟨rfl, hb⟩
  have A0 : w1.heap[w.heap.size]? = some (.cells s.vals 40 (0, 0)) := Kit.kept hb (Kit.blk3a _ _ _ _)
  have A1 : w1.heap[w.heap.size + 1]? = some (.cells q.vals 46 (0, 0)) := Kit.kept hb (Kit.blk3b _ _ _ _)
  have A2 : w1.heap[w.heap.size + 2]? = some (.cells #[.int .i64 t] 2 (0, 0)) := Kit.kept hb (Kit.blk3c _ _ _ _)
  have hB1 := Kit.then_ (Kit.below3 _ _ _ _) hb
  clear hb
  have q0 : w1.cell? ⟨w.heap.size + 1, 0, none⟩ = some (.int .i64 q.kind) := Kit.cell A1 0 _ rfl
  have q1 : w1.cell? ⟨w.heap.size + 1, 1, none⟩ = some (.int .u16 q.addr) := Kit.cell A1 1 _ rfl
  have q2 : w1.cell? ⟨w.heap.size + 1, 2, none⟩ = some (.int .u8 q.value) := Kit.cell A1 2 _ rfl
  have q3 : w1.cell? ⟨w.heap.size + 1, 3, none⟩ = some (.int .i64 q.len) := Kit.cell A1 3 _ rfl
  have HA0 := Lib.hid A0; have HA1 := Lib.hid A1; have HA2 := Lib.hid A2; clear A0 A1 A2
  have HB1 := Lib.hid hB1; clear hB1
  go_wp2_with fail
  refine (HQ.out _).mono ?_; rintro e w2 ⟨rfl, hb⟩
  clear q0 q1 q2 q3
  have A0 := Kit.kept hb HA0.out
  have A1 := Kit.kept hb HA1.out
  have A2 := Kit.kept hb HA2.out
  have hB2 := Kit.then_ HB1.out hb
  clear hb HA0 HA1 HA2 HB1
  have q0 : w2.cell? ⟨w.heap.size + 1, 0, none⟩ = some (.int .i64 q.kind) := Kit.cell A1 0 _ rfl
  have q1 : w2.cell? ⟨w.heap.size + 1, 1, none⟩ = some (.int .u16 q.addr) := Kit.cell A1 1 _ rfl
  have q3 : w2.cell? ⟨w.heap.size + 1, 3, none⟩ = some (.int .i64 q.len) := Kit.cell A1 3 _ rfl
  have t0 : w2.cell? ⟨w.heap.size + 2, 0, none⟩ = some (.int .i64 (t)) := Kit.cell A2 0 _ rfl
  have tf : w2.frozen? ⟨w.heap.size + 2, 0, none⟩ = false := Kit.frz A2 0
  have HA0 := Lib.hid A0; have HA1 := Lib.hid A1; have HA2 := Lib.hid A2; clear A0 A1 A2
  have d1 : decide (t < 0) = false := decide_eq_false (by omega)
  have d2 : decide (1099511626776 < t) = false := decide_eq_false (by omega)
  have hBs := hB2.size
  have hBp := hB2; clear hB2
  go_wp2_with fail
  refine wp_loop_rounds 5 ?_
  rw [rounds_succ]
  go_wp2_with fail
  refine (wait_closure s (t) h (by omega) (by omega) _ (w.heap.size + 2) w.heap.size HA2.out HA0.out (by omega)).mono ?_; rintro e w3 ⟨rfl, A2, hb⟩
  change w3.heap[w.heap.size + 2]? = some (.cells #[.int .i64 (s.go_ t)] 2 (0, 0)) at A2
  have A0 := hb.blk HA0.out (by omega)
  have A1 := hb.blk HA1.out (by omega)
  have hB := Kit.But.below hBp hb (by omega) hBs
  have hBs2 : w.heap.size ≤ w3.heap.size := hB.size
  clear hb hBp hBs HA0 HA1 HA2 t0 tf q0 q1 q3
  have hBp := hB; have hBs := hBs2; clear hB hBs2
  have q0 : w3.cell? ⟨w.heap.size + 1, 0, none⟩ = some (.int .i64 q.kind) := Kit.cell A1 0 _ rfl
  have q1 : w3.cell? ⟨w.heap.size + 1, 1, none⟩ = some (.int .u16 q.addr) := Kit.cell A1 1 _ rfl
  have q3 : w3.cell? ⟨w.heap.size + 1, 3, none⟩ = some (.int .i64 q.len) := Kit.cell A1 3 _ rfl
  have t0 : w3.cell? ⟨w.heap.size + 2, 0, none⟩ = some (.int .i64 (s.go_ t)) := Kit.cell A2 0 _ rfl
  have tf : w3.frozen? ⟨w.heap.size + 2, 0, none⟩ = false := Kit.frz A2 0
  have HA0 := Lib.hid A0; have HA1 := Lib.hid A1; have HA2 := Lib.hid A2; clear A0 A1 A2
  go_wp2_with fail
  generalize hW : w3.setCell ⟨w.heap.size + 1 + 1, 0, none⟩ (.int .i64 (s.go_ t + 1)) = w4
  have A0 : w4.heap[w.heap.size]? = some (.cells s.vals 40 (0, 0)) := by rw [← hW]; exact Kit.set_far HA0.out _ (by simp; omega) _
  have A1 : w4.heap[w.heap.size + 1]? = some (.cells q.vals 46 (0, 0)) := by rw [← hW]; exact Kit.set_far HA1.out _ (by simp) _
  have A2 : w4.heap[w.heap.size + 2]? = some (.cells #[.int .i64 (s.go_ t + 1)] 2 (0, 0)) := by rw [← hW]; exact Kit.set_ HA2.out 0 _ rfl
  have hB : Below w.heap.size w w4 := by rw [← hW]; exact hBp.setCell (by simp; omega) _
  clear hW hBp hBs HA0 HA1 HA2 t0 tf q0 q1 q3
  have hBp := hB; have hBs := hB.size; clear hB
  have q0 : w4.cell? ⟨w.heap.size + 1, 0, none⟩ = some (.int .i64 q.kind) := Kit.cell A1 0 _ rfl
  have q1 : w4.cell? ⟨w.heap.size + 1, 1, none⟩ = some (.int .u16 q.addr) := Kit.cell A1 1 _ rfl
  have q3 : w4.cell? ⟨w.heap.size + 1, 3, none⟩ = some (.int .i64 q.len) := Kit.cell A1 3 _ rfl
  have t0 : w4.cell? ⟨w.heap.size + 2, 0, none⟩ = some (.int .i64 (s.go_ t + 1)) := Kit.cell A2 0 _ rfl
  have tf : w4.frozen? ⟨w.heap.size + 2, 0, none⟩ = false := Kit.frz A2 0
  have HA0 := Lib.hid A0; have HA1 := Lib.hid A1; have HA2 := Lib.hid A2; clear A0 A1 A2
  rw [rounds_succ]
  go_wp2_with fail
  refine (wait_closure s (s.go_ t + 1) h (by omega) (by omega) _ (w.heap.size + 2) w.heap.size HA2.out HA0.out (by omega)).mono ?_; rintro e w5 ⟨rfl, A2, hb⟩
  change w5.heap[w.heap.size + 2]? = some (.cells #[.int .i64 (s.go_ (s.go_ t + 1))] 2 (0, 0)) at A2
  have A0 := hb.blk HA0.out (by omega)
  have A1 := hb.blk HA1.out (by omega)
  have hB := Kit.But.below hBp hb (by omega) hBs
  have hBs2 : w.heap.size ≤ w5.heap.size := hB.size
  clear hb hBp hBs HA0 HA1 HA2 t0 tf q0 q1 q3
  have hBp := hB; have hBs := hBs2; clear hB hBs2
  have q0 : w5.cell? ⟨w.heap.size + 1, 0, none⟩ = some (.int .i64 q.kind) := Kit.cell A1 0 _ rfl
  have q1 : w5.cell? ⟨w.heap.size + 1, 1, none⟩ = some (.int .u16 q.addr) := Kit.cell A1 1 _ rfl
  have q3 : w5.cell? ⟨w.heap.size + 1, 3, none⟩ = some (.int .i64 q.len) := Kit.cell A1 3 _ rfl
  have t0 : w5.cell? ⟨w.heap.size + 2, 0, none⟩ = some (.int .i64 (s.go_ (s.go_ t + 1))) := Kit.cell A2 0 _ rfl
  have tf : w5.frozen? ⟨w.heap.size + 2, 0, none⟩ = false := Kit.frz A2 0
  have HA0 := Lib.hid A0; have HA1 := Lib.hid A1; have HA2 := Lib.hid A2; clear A0 A1 A2
  go_wp2_with fail
  generalize hW : w5.setCell ⟨w.heap.size + 1 + 1, 0, none⟩ (.int .i64 (s.go_ (s.go_ t + 1) + 1)) = w6
  have A0 : w6.heap[w.heap.size]? = some (.cells s.vals 40 (0, 0)) := by rw [← hW]; exact Kit.set_far HA0.out _ (by simp; omega) _
  have A1 : w6.heap[w.heap.size + 1]? = some (.cells q.vals 46 (0, 0)) := by rw [← hW]; exact Kit.set_far HA1.out _ (by simp) _
  have A2 : w6.heap[w.heap.size + 2]? = some (.cells #[.int .i64 (s.go_ (s.go_ t + 1) + 1)] 2 (0, 0)) := by rw [← hW]; exact Kit.set_ HA2.out 0 _ rfl
  have hB : Below w.heap.size w w6 := by rw [← hW]; exact hBp.setCell (by simp; omega) _
  clear hW hBp hBs HA0 HA1 HA2 t0 tf q0 q1 q3
  have hBp := hB; have hBs := hB.size; clear hB
  have q0 : w6.cell? ⟨w.heap.size + 1, 0, none⟩ = some (.int .i64 q.kind) := Kit.cell A1 0 _ rfl
  have q1 : w6.cell? ⟨w.heap.size + 1, 1, none⟩ = some (.int .u16 q.addr) := Kit.cell A1 1 _ rfl
  have q3 : w6.cell? ⟨w.heap.size + 1, 3, none⟩ = some (.int .i64 q.len) := Kit.cell A1 3 _ rfl
  have t0 : w6.cell? ⟨w.heap.size + 2, 0, none⟩ = some (.int .i64 (s.go_ (s.go_ t + 1) + 1)) := Kit.cell A2 0 _ rfl
  have tf : w6.frozen? ⟨w.heap.size + 2, 0, none⟩ = false := Kit.frz A2 0
  have HA0 := Lib.hid A0; have HA1 := Lib.hid A1; have HA2 := Lib.hid A2; clear A0 A1 A2
  rw [rounds_succ]
  go_wp2_with fail
  refine (wait_closure s (s.go_ (s.go_ t + 1) + 1) h (by omega) (by omega) _ (w.heap.size + 2) w.heap.size HA2.out HA0.out (by omega)).mono ?_; rintro e w7 ⟨rfl, A2, hb⟩
  change w7.heap[w.heap.size + 2]? = some (.cells #[.int .i64 (s.go_ (s.go_ (s.go_ t + 1) + 1))] 2 (0, 0)) at A2
  have A0 := hb.blk HA0.out (by omega)
  have A1 := hb.blk HA1.out (by omega)
  have hB := Kit.But.below hBp hb (by omega) hBs
  have hBs2 : w.heap.size ≤ w7.heap.size := hB.size
  clear hb hBp hBs HA0 HA1 HA2 t0 tf q0 q1 q3
  have hBp := hB; have hBs := hBs2; clear hB hBs2
  have q0 : w7.cell? ⟨w.heap.size + 1, 0, none⟩ = some (.int .i64 q.kind) := Kit.cell A1 0 _ rfl
  have q1 : w7.cell? ⟨w.heap.size + 1, 1, none⟩ = some (.int .u16 q.addr) := Kit.cell A1 1 _ rfl
  have q3 : w7.cell? ⟨w.heap.size + 1, 3, none⟩ = some (.int .i64 q.len) := Kit.cell A1 3 _ rfl
  have t0 : w7.cell? ⟨w.heap.size + 2, 0, none⟩ = some (.int .i64 (s.go_ (s.go_ (s.go_ t + 1) + 1))) := Kit.cell A2 0 _ rfl
  have tf : w7.frozen? ⟨w.heap.size + 2, 0, none⟩ = false := Kit.frz A2 0
  have HA0 := Lib.hid A0; have HA1 := Lib.hid A1; have HA2 := Lib.hid A2; clear A0 A1 A2
  go_wp2_with fail
  generalize hW : w7.setCell ⟨w.heap.size + 1 + 1, 0, none⟩ (.int .i64 (s.go_ (s.go_ (s.go_ t + 1) + 1) + 1)) = w8
  have A0 : w8.heap[w.heap.size]? = some (.cells s.vals 40 (0, 0)) := by rw [← hW]; exact Kit.set_far HA0.out _ (by simp; omega) _
  have A1 : w8.heap[w.heap.size + 1]? = some (.cells q.vals 46 (0, 0)) := by rw [← hW]; exact Kit.set_far HA1.out _ (by simp) _
  have A2 : w8.heap[w.heap.size + 2]? = some (.cells #[.int .i64 (s.go_ (s.go_ (s.go_ t + 1) + 1) + 1)] 2 (0, 0)) := by rw [← hW]; exact Kit.set_ HA2.out 0 _ rfl
  have hB : Below w.heap.size w w8 := by rw [← hW]; exact hBp.setCell (by simp; omega) _
  clear hW hBp hBs HA0 HA1 HA2 t0 tf q0 q1 q3
  have hBp := hB; have hBs := hB.size; clear hB
  have q0 : w8.cell? ⟨w.heap.size + 1, 0, none⟩ = some (.int .i64 q.kind) := Kit.cell A1 0 _ rfl
  have q1 : w8.cell? ⟨w.heap.size + 1, 1, none⟩ = some (.int .u16 q.addr) := Kit.cell A1 1 _ rfl
  have q3 : w8.cell? ⟨w.heap.size + 1, 3, none⟩ = some (.int .i64 q.len) := Kit.cell A1 3 _ rfl
  have t0 : w8.cell? ⟨w.heap.size + 2, 0, none⟩ = some (.int .i64 (s.go_ (s.go_ (s.go_ t + 1) + 1) + 1)) := Kit.cell A2 0 _ rfl
  have tf : w8.frozen? ⟨w.heap.size + 2, 0, none⟩ = false := Kit.frz A2 0
  have HA0 := Lib.hid A0; have HA1 := Lib.hid A1; have HA2 := Lib.hid A2; clear A0 A1 A2
  rw [rounds_succ]
  go_wp2_with fail
  refine (wait_closure s (s.go_ (s.go_ (s.go_ t + 1) + 1) + 1) h (by omega) (by omega) _ (w.heap.size + 2) w.heap.size HA2.out HA0.out (by omega)).mono ?_; rintro e w9 ⟨rfl, A2, hb⟩
  change w9.heap[w.heap.size + 2]? = some (.cells #[.int .i64 (s.go_ (s.go_ (s.go_ (s.go_ t + 1) + 1) + 1))] 2 (0, 0)) at A2
  have A0 := hb.blk HA0.out (by omega)
  have A1 := hb.blk HA1.out (by omega)
  have hB := Kit.But.below hBp hb (by omega) hBs
  have hBs2 : w.heap.size ≤ w9.heap.size := hB.size
  clear hb hBp hBs HA0 HA1 HA2 t0 tf q0 q1 q3
  have hBp := hB; have hBs := hBs2; clear hB hBs2
  have q0 : w9.cell? ⟨w.heap.size + 1, 0, none⟩ = some (.int .i64 q.kind) := Kit.cell A1 0 _ rfl
  have q1 : w9.cell? ⟨w.heap.size + 1, 1, none⟩ = some (.int .u16 q.addr) := Kit.cell A1 1 _ rfl
  have q3 : w9.cell? ⟨w.heap.size + 1, 3, none⟩ = some (.int .i64 q.len) := Kit.cell A1 3 _ rfl
  have t0 : w9.cell? ⟨w.heap.size + 2, 0, none⟩ = some (.int .i64 (s.go_ (s.go_ (s.go_ (s.go_ t + 1) + 1) + 1))) := Kit.cell A2 0 _ rfl
  have tf : w9.frozen? ⟨w.heap.size + 2, 0, none⟩ = false := Kit.frz A2 0
  have HA0 := Lib.hid A0; have HA1 := Lib.hid A1; have HA2 := Lib.hid A2; clear A0 A1 A2
  go_wp2_with fail
  generalize hW : w9.setCell ⟨w.heap.size + 1 + 1, 0, none⟩ (.int .i64 (s.go_ (s.go_ (s.go_ (s.go_ t + 1) + 1) + 1) + 1)) = w10
  have A0 : w10.heap[w.heap.size]? = some (.cells s.vals 40 (0, 0)) := by rw [← hW]; exact Kit.set_far HA0.out _ (by simp; omega) _
  have A1 : w10.heap[w.heap.size + 1]? = some (.cells q.vals 46 (0, 0)) := by rw [← hW]; exact Kit.set_far HA1.out _ (by simp) _
  have A2 : w10.heap[w.heap.size + 2]? = some (.cells #[.int .i64 (s.go_ (s.go_ (s.go_ (s.go_ t + 1) + 1) + 1) + 1)] 2 (0, 0)) := by rw [← hW]; exact Kit.set_ HA2.out 0 _ rfl
  have hB : Below w.heap.size w w10 := by rw [← hW]; exact hBp.setCell (by simp; omega) _
  clear hW hBp hBs HA0 HA1 HA2 t0 tf q0 q1 q3
  have hBp := hB; have hBs := hB.size; clear hB
  have q0 : w10.cell? ⟨w.heap.size + 1, 0, none⟩ = some (.int .i64 q.kind) := Kit.cell A1 0 _ rfl
  have q1 : w10.cell? ⟨w.heap.size + 1, 1, none⟩ = some (.int .u16 q.addr) := Kit.cell A1 1 _ rfl
  have q3 : w10.cell? ⟨w.heap.size + 1, 3, none⟩ = some (.int .i64 q.len) := Kit.cell A1 3 _ rfl
  have t0 : w10.cell? ⟨w.heap.size + 2, 0, none⟩ = some (.int .i64 (s.go_ (s.go_ (s.go_ (s.go_ t + 1) + 1) + 1) + 1)) := Kit.cell A2 0 _ rfl
  have tf : w10.frozen? ⟨w.heap.size + 2, 0, none⟩ = false := Kit.frz A2 0
  have HA0 := Lib.hid A0; have HA1 := Lib.hid A1; have HA2 := Lib.hid A2; clear A0 A1 A2
  rw [rounds_succ]
  go_wp2_with fail
  go_region
  go_wp2_with fail
  go_ret3
  exact ⟨by simp only [Scr.io]; rfl, hBp.drew⟩
set_option maxRecDepth 100000 in
set_option maxHeartbeats 1000000 in
theorem req_io5_false_true (s : Scr) (q : Rq) (t : Int) (h : s.ok = true) (hq : StepOk q) (h1 : 0 ≤ t) (h2 : t ≤ 1099511626776) (w : World) (k6 : (q.kind == 6) = false) (k4 : (q.kind == 4) = false) (k5 : (q.kind == 5) = true) (a1 : 0 ≤ q.addr) (a2 : q.addr < 65536) (he : (q.addr % 2 == 0) = true) :
    Calls Try.prog 28 #[s.val, q.val, .bool false, .int .i64 t] w fun e w' => e = .returned (.tuple #[.int .i64 (s.io false true t |>.1), .int .i64 (s.io false true t |>.2), .int .i64 0]) ∧ Below w.heap.size w w' := by
  have ha := and1 q.addr a1 a2
  have hg0 := s.go_le (t + 1)
  obtain ⟨ha0, hb0⟩ := hg0
  have hc := check_calls s
  rw [Scr.code_yes h] at hc
  have HC := Lib.hid hc; clear hc
  have HQ := Lib.hid hq; clear hq
  go_enter Try.func28, Try.ntmps28
  simp only [Scr.val, Scr.vals, Rq.val, Rq.vals]
  go_wp2_with fail
  refine (HC.out _).mono ?_; rintro e w1 ⟨rfl, hb⟩
  have A0 : w1.heap[w.heap.size]? = some (.cells s.vals 40 (0, 0)) := Kit.kept hb (Kit.blk3a _ _ _ _)
  have A1 : w1.heap[w.heap.size + 1]? = some (.cells q.vals 46 (0, 0)) := Kit.kept hb (Kit.blk3b _ _ _ _)
  have A2 : w1.heap[w.heap.size + 2]? = some (.cells #[.int .i64 t] 2 (0, 0)) := Kit.kept hb (Kit.blk3c _ _ _ _)
  have hB1 := Kit.then_ (Kit.below3 _ _ _ _) hb
  clear hb
  have q0 : w1.cell? ⟨w.heap.size + 1, 0, none⟩ = some (.int .i64 q.kind) := Kit.cell A1 0 _ rfl
  have q1 : w1.cell? ⟨w.heap.size + 1, 1, none⟩ = some (.int .u16 q.addr) := Kit.cell A1 1 _ rfl
  have q2 : w1.cell? ⟨w.heap.size + 1, 2, none⟩ = some (.int .u8 q.value) := Kit.cell A1 2 _ rfl
  have q3 : w1.cell? ⟨w.heap.size + 1, 3, none⟩ = some (.int .i64 q.len) := Kit.cell A1 3 _ rfl
  have HA0 := Lib.hid A0; have HA1 := Lib.hid A1; have HA2 := Lib.hid A2; clear A0 A1 A2
  have HB1 := Lib.hid hB1; clear hB1
  go_wp2_with fail
  refine (HQ.out _).mono ?_; rintro e w2 ⟨rfl, hb⟩
  clear q0 q1 q2 q3
  have A0 := Kit.kept hb HA0.out
  have A1 := Kit.kept hb HA1.out
  have A2 := Kit.kept hb HA2.out
  have hB2 := Kit.then_ HB1.out hb
  clear hb HA0 HA1 HA2 HB1
  have q0 : w2.cell? ⟨w.heap.size + 1, 0, none⟩ = some (.int .i64 q.kind) := Kit.cell A1 0 _ rfl
  have q1 : w2.cell? ⟨w.heap.size + 1, 1, none⟩ = some (.int .u16 q.addr) := Kit.cell A1 1 _ rfl
  have q3 : w2.cell? ⟨w.heap.size + 1, 3, none⟩ = some (.int .i64 q.len) := Kit.cell A1 3 _ rfl
  have t0 : w2.cell? ⟨w.heap.size + 2, 0, none⟩ = some (.int .i64 (t)) := Kit.cell A2 0 _ rfl
  have tf : w2.frozen? ⟨w.heap.size + 2, 0, none⟩ = false := Kit.frz A2 0
  have HA0 := Lib.hid A0; have HA1 := Lib.hid A1; have HA2 := Lib.hid A2; clear A0 A1 A2
  have d1 : decide (t < 0) = false := decide_eq_false (by omega)
  have d2 : decide (1099511626776 < t) = false := decide_eq_false (by omega)
  have hBs := hB2.size
  have hBp := hB2; clear hB2
  go_wp2_with fail
  refine wp_loop_rounds 5 ?_
  rw [rounds_succ]
  go_wp2_with fail
  generalize hW : w2.setCell ⟨w.heap.size + 1 + 1, 0, none⟩ (.int .i64 (t + 1)) = w3
  have A0 : w3.heap[w.heap.size]? = some (.cells s.vals 40 (0, 0)) := by rw [← hW]; exact Kit.set_far HA0.out _ (by simp; omega) _
  have A1 : w3.heap[w.heap.size + 1]? = some (.cells q.vals 46 (0, 0)) := by rw [← hW]; exact Kit.set_far HA1.out _ (by simp) _
  have A2 : w3.heap[w.heap.size + 2]? = some (.cells #[.int .i64 (t + 1)] 2 (0, 0)) := by rw [← hW]; exact Kit.set_ HA2.out 0 _ rfl
  have hB : Below w.heap.size w w3 := by rw [← hW]; exact hBp.setCell (by simp; omega) _
  clear hW hBp hBs HA0 HA1 HA2 t0 tf q0 q1 q3
  have hBp := hB; have hBs := hB.size; clear hB
  have q0 : w3.cell? ⟨w.heap.size + 1, 0, none⟩ = some (.int .i64 q.kind) := Kit.cell A1 0 _ rfl
  have q1 : w3.cell? ⟨w.heap.size + 1, 1, none⟩ = some (.int .u16 q.addr) := Kit.cell A1 1 _ rfl
  have q3 : w3.cell? ⟨w.heap.size + 1, 3, none⟩ = some (.int .i64 q.len) := Kit.cell A1 3 _ rfl
  have t0 : w3.cell? ⟨w.heap.size + 2, 0, none⟩ = some (.int .i64 (t + 1)) := Kit.cell A2 0 _ rfl
  have tf : w3.frozen? ⟨w.heap.size + 2, 0, none⟩ = false := Kit.frz A2 0
  have HA0 := Lib.hid A0; have HA1 := Lib.hid A1; have HA2 := Lib.hid A2; clear A0 A1 A2
  rw [rounds_succ]
  go_wp2_with fail
  refine (wait_closure s (t + 1) h (by omega) (by omega) _ (w.heap.size + 2) w.heap.size HA2.out HA0.out (by omega)).mono ?_; rintro e w4 ⟨rfl, A2, hb⟩
  change w4.heap[w.heap.size + 2]? = some (.cells #[.int .i64 (s.go_ (t + 1))] 2 (0, 0)) at A2
  have A0 := hb.blk HA0.out (by omega)
  have A1 := hb.blk HA1.out (by omega)
  have hB := Kit.But.below hBp hb (by omega) hBs
  have hBs2 : w.heap.size ≤ w4.heap.size := hB.size
  clear hb hBp hBs HA0 HA1 HA2 t0 tf q0 q1 q3
  have hBp := hB; have hBs := hBs2; clear hB hBs2
  have q0 : w4.cell? ⟨w.heap.size + 1, 0, none⟩ = some (.int .i64 q.kind) := Kit.cell A1 0 _ rfl
  have q1 : w4.cell? ⟨w.heap.size + 1, 1, none⟩ = some (.int .u16 q.addr) := Kit.cell A1 1 _ rfl
  have q3 : w4.cell? ⟨w.heap.size + 1, 3, none⟩ = some (.int .i64 q.len) := Kit.cell A1 3 _ rfl
  have t0 : w4.cell? ⟨w.heap.size + 2, 0, none⟩ = some (.int .i64 (s.go_ (t + 1))) := Kit.cell A2 0 _ rfl
  have tf : w4.frozen? ⟨w.heap.size + 2, 0, none⟩ = false := Kit.frz A2 0
  have HA0 := Lib.hid A0; have HA1 := Lib.hid A1; have HA2 := Lib.hid A2; clear A0 A1 A2
  go_wp2_with fail
  generalize hW : w4.setCell ⟨w.heap.size + 1 + 1, 0, none⟩ (.int .i64 (s.go_ (t + 1) + 1)) = w5
  have A0 : w5.heap[w.heap.size]? = some (.cells s.vals 40 (0, 0)) := by rw [← hW]; exact Kit.set_far HA0.out _ (by simp; omega) _
  have A1 : w5.heap[w.heap.size + 1]? = some (.cells q.vals 46 (0, 0)) := by rw [← hW]; exact Kit.set_far HA1.out _ (by simp) _
  have A2 : w5.heap[w.heap.size + 2]? = some (.cells #[.int .i64 (s.go_ (t + 1) + 1)] 2 (0, 0)) := by rw [← hW]; exact Kit.set_ HA2.out 0 _ rfl
  have hB : Below w.heap.size w w5 := by rw [← hW]; exact hBp.setCell (by simp; omega) _
  clear hW hBp hBs HA0 HA1 HA2 t0 tf q0 q1 q3
  have hBp := hB; have hBs := hB.size; clear hB
  have q0 : w5.cell? ⟨w.heap.size + 1, 0, none⟩ = some (.int .i64 q.kind) := Kit.cell A1 0 _ rfl
  have q1 : w5.cell? ⟨w.heap.size + 1, 1, none⟩ = some (.int .u16 q.addr) := Kit.cell A1 1 _ rfl
  have q3 : w5.cell? ⟨w.heap.size + 1, 3, none⟩ = some (.int .i64 q.len) := Kit.cell A1 3 _ rfl
  have t0 : w5.cell? ⟨w.heap.size + 2, 0, none⟩ = some (.int .i64 (s.go_ (t + 1) + 1)) := Kit.cell A2 0 _ rfl
  have tf : w5.frozen? ⟨w.heap.size + 2, 0, none⟩ = false := Kit.frz A2 0
  have HA0 := Lib.hid A0; have HA1 := Lib.hid A1; have HA2 := Lib.hid A2; clear A0 A1 A2
  rw [rounds_succ]
  go_wp2_with fail
  generalize hW : w5.setCell ⟨w.heap.size + 1 + 1, 0, none⟩ (.int .i64 (s.go_ (t + 1) + 1 + 1)) = w6
  have A0 : w6.heap[w.heap.size]? = some (.cells s.vals 40 (0, 0)) := by rw [← hW]; exact Kit.set_far HA0.out _ (by simp; omega) _
  have A1 : w6.heap[w.heap.size + 1]? = some (.cells q.vals 46 (0, 0)) := by rw [← hW]; exact Kit.set_far HA1.out _ (by simp) _
  have A2 : w6.heap[w.heap.size + 2]? = some (.cells #[.int .i64 (s.go_ (t + 1) + 1 + 1)] 2 (0, 0)) := by rw [← hW]; exact Kit.set_ HA2.out 0 _ rfl
  have hB : Below w.heap.size w w6 := by rw [← hW]; exact hBp.setCell (by simp; omega) _
  clear hW hBp hBs HA0 HA1 HA2 t0 tf q0 q1 q3
  have hBp := hB; have hBs := hB.size; clear hB
  have q0 : w6.cell? ⟨w.heap.size + 1, 0, none⟩ = some (.int .i64 q.kind) := Kit.cell A1 0 _ rfl
  have q1 : w6.cell? ⟨w.heap.size + 1, 1, none⟩ = some (.int .u16 q.addr) := Kit.cell A1 1 _ rfl
  have q3 : w6.cell? ⟨w.heap.size + 1, 3, none⟩ = some (.int .i64 q.len) := Kit.cell A1 3 _ rfl
  have t0 : w6.cell? ⟨w.heap.size + 2, 0, none⟩ = some (.int .i64 (s.go_ (t + 1) + 1 + 1)) := Kit.cell A2 0 _ rfl
  have tf : w6.frozen? ⟨w.heap.size + 2, 0, none⟩ = false := Kit.frz A2 0
  have HA0 := Lib.hid A0; have HA1 := Lib.hid A1; have HA2 := Lib.hid A2; clear A0 A1 A2
  rw [rounds_succ]
  go_wp2_with fail
  generalize hW : w6.setCell ⟨w.heap.size + 1 + 1, 0, none⟩ (.int .i64 (s.go_ (t + 1) + 1 + 1 + 1)) = w7
  have A0 : w7.heap[w.heap.size]? = some (.cells s.vals 40 (0, 0)) := by rw [← hW]; exact Kit.set_far HA0.out _ (by simp; omega) _
  have A1 : w7.heap[w.heap.size + 1]? = some (.cells q.vals 46 (0, 0)) := by rw [← hW]; exact Kit.set_far HA1.out _ (by simp) _
  have A2 : w7.heap[w.heap.size + 2]? = some (.cells #[.int .i64 (s.go_ (t + 1) + 1 + 1 + 1)] 2 (0, 0)) := by rw [← hW]; exact Kit.set_ HA2.out 0 _ rfl
  have hB : Below w.heap.size w w7 := by rw [← hW]; exact hBp.setCell (by simp; omega) _
  clear hW hBp hBs HA0 HA1 HA2 t0 tf q0 q1 q3
  have hBp := hB; have hBs := hB.size; clear hB
  have q0 : w7.cell? ⟨w.heap.size + 1, 0, none⟩ = some (.int .i64 q.kind) := Kit.cell A1 0 _ rfl
  have q1 : w7.cell? ⟨w.heap.size + 1, 1, none⟩ = some (.int .u16 q.addr) := Kit.cell A1 1 _ rfl
  have q3 : w7.cell? ⟨w.heap.size + 1, 3, none⟩ = some (.int .i64 q.len) := Kit.cell A1 3 _ rfl
  have t0 : w7.cell? ⟨w.heap.size + 2, 0, none⟩ = some (.int .i64 (s.go_ (t + 1) + 1 + 1 + 1)) := Kit.cell A2 0 _ rfl
  have tf : w7.frozen? ⟨w.heap.size + 2, 0, none⟩ = false := Kit.frz A2 0
  have HA0 := Lib.hid A0; have HA1 := Lib.hid A1; have HA2 := Lib.hid A2; clear A0 A1 A2
  rw [rounds_succ]
  go_wp2_with fail
  go_region
  go_wp2_with fail
  go_ret3
  exact ⟨by simp only [Scr.io]; rfl, hBp.drew⟩
set_option maxRecDepth 100000 in
set_option maxHeartbeats 1000000 in
theorem req_io5_false_false (s : Scr) (q : Rq) (t : Int) (h : s.ok = true) (hq : StepOk q) (h1 : 0 ≤ t) (h2 : t ≤ 1099511626776) (w : World) (k6 : (q.kind == 6) = false) (k4 : (q.kind == 4) = false) (k5 : (q.kind == 5) = true) (a1 : 0 ≤ q.addr) (a2 : q.addr < 65536) (he : (q.addr % 2 == 0) = false) :
    Calls Try.prog 28 #[s.val, q.val, .bool false, .int .i64 t] w fun e w' => e = .returned (.tuple #[.int .i64 (s.io false false t |>.1), .int .i64 (s.io false false t |>.2), .int .i64 0]) ∧ Below w.heap.size w w' := by
  have ha := and1 q.addr a1 a2
  have hc := check_calls s
  rw [Scr.code_yes h] at hc
  have HC := Lib.hid hc; clear hc
  have HQ := Lib.hid hq; clear hq
  go_enter Try.func28, Try.ntmps28
  simp only [Scr.val, Scr.vals, Rq.val, Rq.vals]
  go_wp2_with fail
  refine (HC.out _).mono ?_; rintro e w1 ⟨rfl, hb⟩
  have A0 : w1.heap[w.heap.size]? = some (.cells s.vals 40 (0, 0)) := Kit.kept hb (Kit.blk3a _ _ _ _)
  have A1 : w1.heap[w.heap.size + 1]? = some (.cells q.vals 46 (0, 0)) := Kit.kept hb (Kit.blk3b _ _ _ _)
  have A2 : w1.heap[w.heap.size + 2]? = some (.cells #[.int .i64 t] 2 (0, 0)) := Kit.kept hb (Kit.blk3c _ _ _ _)
  have hB1 := Kit.then_ (Kit.below3 _ _ _ _) hb
  clear hb
  have q0 : w1.cell? ⟨w.heap.size + 1, 0, none⟩ = some (.int .i64 q.kind) := Kit.cell A1 0 _ rfl
  have q1 : w1.cell? ⟨w.heap.size + 1, 1, none⟩ = some (.int .u16 q.addr) := Kit.cell A1 1 _ rfl
  have q2 : w1.cell? ⟨w.heap.size + 1, 2, none⟩ = some (.int .u8 q.value) := Kit.cell A1 2 _ rfl
  have q3 : w1.cell? ⟨w.heap.size + 1, 3, none⟩ = some (.int .i64 q.len) := Kit.cell A1 3 _ rfl
  have HA0 := Lib.hid A0; have HA1 := Lib.hid A1; have HA2 := Lib.hid A2; clear A0 A1 A2
  have HB1 := Lib.hid hB1; clear hB1
  go_wp2_with fail
  refine (HQ.out _).mono ?_; rintro e w2 ⟨rfl, hb⟩
  clear q0 q1 q2 q3
  have A0 := Kit.kept hb HA0.out
  have A1 := Kit.kept hb HA1.out
  have A2 := Kit.kept hb HA2.out
  have hB2 := Kit.then_ HB1.out hb
  clear hb HA0 HA1 HA2 HB1
  have q0 : w2.cell? ⟨w.heap.size + 1, 0, none⟩ = some (.int .i64 q.kind) := Kit.cell A1 0 _ rfl
  have q1 : w2.cell? ⟨w.heap.size + 1, 1, none⟩ = some (.int .u16 q.addr) := Kit.cell A1 1 _ rfl
  have q3 : w2.cell? ⟨w.heap.size + 1, 3, none⟩ = some (.int .i64 q.len) := Kit.cell A1 3 _ rfl
  have t0 : w2.cell? ⟨w.heap.size + 2, 0, none⟩ = some (.int .i64 (t)) := Kit.cell A2 0 _ rfl
  have tf : w2.frozen? ⟨w.heap.size + 2, 0, none⟩ = false := Kit.frz A2 0
  have HA0 := Lib.hid A0; have HA1 := Lib.hid A1; have HA2 := Lib.hid A2; clear A0 A1 A2
  have d1 : decide (t < 0) = false := decide_eq_false (by omega)
  have d2 : decide (1099511626776 < t) = false := decide_eq_false (by omega)
  have hBs := hB2.size
  have hBp := hB2; clear hB2
  go_wp2_with fail
  refine wp_loop_rounds 5 ?_
  rw [rounds_succ]
  go_wp2_with fail
  generalize hW : w2.setCell ⟨w.heap.size + 1 + 1, 0, none⟩ (.int .i64 (t + 1)) = w3
  have A0 : w3.heap[w.heap.size]? = some (.cells s.vals 40 (0, 0)) := by rw [← hW]; exact Kit.set_far HA0.out _ (by simp; omega) _
  have A1 : w3.heap[w.heap.size + 1]? = some (.cells q.vals 46 (0, 0)) := by rw [← hW]; exact Kit.set_far HA1.out _ (by simp) _
  have A2 : w3.heap[w.heap.size + 2]? = some (.cells #[.int .i64 (t + 1)] 2 (0, 0)) := by rw [← hW]; exact Kit.set_ HA2.out 0 _ rfl
  have hB : Below w.heap.size w w3 := by rw [← hW]; exact hBp.setCell (by simp; omega) _
  clear hW hBp hBs HA0 HA1 HA2 t0 tf q0 q1 q3
  have hBp := hB; have hBs := hB.size; clear hB
  have q0 : w3.cell? ⟨w.heap.size + 1, 0, none⟩ = some (.int .i64 q.kind) := Kit.cell A1 0 _ rfl
  have q1 : w3.cell? ⟨w.heap.size + 1, 1, none⟩ = some (.int .u16 q.addr) := Kit.cell A1 1 _ rfl
  have q3 : w3.cell? ⟨w.heap.size + 1, 3, none⟩ = some (.int .i64 q.len) := Kit.cell A1 3 _ rfl
  have t0 : w3.cell? ⟨w.heap.size + 2, 0, none⟩ = some (.int .i64 (t + 1)) := Kit.cell A2 0 _ rfl
  have tf : w3.frozen? ⟨w.heap.size + 2, 0, none⟩ = false := Kit.frz A2 0
  have HA0 := Lib.hid A0; have HA1 := Lib.hid A1; have HA2 := Lib.hid A2; clear A0 A1 A2
  rw [rounds_succ]
  go_wp2_with fail
  generalize hW : w3.setCell ⟨w.heap.size + 1 + 1, 0, none⟩ (.int .i64 (t + 1 + 1)) = w4
  have A0 : w4.heap[w.heap.size]? = some (.cells s.vals 40 (0, 0)) := by rw [← hW]; exact Kit.set_far HA0.out _ (by simp; omega) _
  have A1 : w4.heap[w.heap.size + 1]? = some (.cells q.vals 46 (0, 0)) := by rw [← hW]; exact Kit.set_far HA1.out _ (by simp) _
  have A2 : w4.heap[w.heap.size + 2]? = some (.cells #[.int .i64 (t + 1 + 1)] 2 (0, 0)) := by rw [← hW]; exact Kit.set_ HA2.out 0 _ rfl
  have hB : Below w.heap.size w w4 := by rw [← hW]; exact hBp.setCell (by simp; omega) _
  clear hW hBp hBs HA0 HA1 HA2 t0 tf q0 q1 q3
  have hBp := hB; have hBs := hB.size; clear hB
  have q0 : w4.cell? ⟨w.heap.size + 1, 0, none⟩ = some (.int .i64 q.kind) := Kit.cell A1 0 _ rfl
  have q1 : w4.cell? ⟨w.heap.size + 1, 1, none⟩ = some (.int .u16 q.addr) := Kit.cell A1 1 _ rfl
  have q3 : w4.cell? ⟨w.heap.size + 1, 3, none⟩ = some (.int .i64 q.len) := Kit.cell A1 3 _ rfl
  have t0 : w4.cell? ⟨w.heap.size + 2, 0, none⟩ = some (.int .i64 (t + 1 + 1)) := Kit.cell A2 0 _ rfl
  have tf : w4.frozen? ⟨w.heap.size + 2, 0, none⟩ = false := Kit.frz A2 0
  have HA0 := Lib.hid A0; have HA1 := Lib.hid A1; have HA2 := Lib.hid A2; clear A0 A1 A2
  rw [rounds_succ]
  go_wp2_with fail
  generalize hW : w4.setCell ⟨w.heap.size + 1 + 1, 0, none⟩ (.int .i64 (t + 1 + 1 + 1)) = w5
  have A0 : w5.heap[w.heap.size]? = some (.cells s.vals 40 (0, 0)) := by rw [← hW]; exact Kit.set_far HA0.out _ (by simp; omega) _
  have A1 : w5.heap[w.heap.size + 1]? = some (.cells q.vals 46 (0, 0)) := by rw [← hW]; exact Kit.set_far HA1.out _ (by simp) _
  have A2 : w5.heap[w.heap.size + 2]? = some (.cells #[.int .i64 (t + 1 + 1 + 1)] 2 (0, 0)) := by rw [← hW]; exact Kit.set_ HA2.out 0 _ rfl
  have hB : Below w.heap.size w w5 := by rw [← hW]; exact hBp.setCell (by simp; omega) _
  clear hW hBp hBs HA0 HA1 HA2 t0 tf q0 q1 q3
  have hBp := hB; have hBs := hB.size; clear hB
  have q0 : w5.cell? ⟨w.heap.size + 1, 0, none⟩ = some (.int .i64 q.kind) := Kit.cell A1 0 _ rfl
  have q1 : w5.cell? ⟨w.heap.size + 1, 1, none⟩ = some (.int .u16 q.addr) := Kit.cell A1 1 _ rfl
  have q3 : w5.cell? ⟨w.heap.size + 1, 3, none⟩ = some (.int .i64 q.len) := Kit.cell A1 3 _ rfl
  have t0 : w5.cell? ⟨w.heap.size + 2, 0, none⟩ = some (.int .i64 (t + 1 + 1 + 1)) := Kit.cell A2 0 _ rfl
  have tf : w5.frozen? ⟨w.heap.size + 2, 0, none⟩ = false := Kit.frz A2 0
  have HA0 := Lib.hid A0; have HA1 := Lib.hid A1; have HA2 := Lib.hid A2; clear A0 A1 A2
  rw [rounds_succ]
  go_wp2_with fail
  generalize hW : w5.setCell ⟨w.heap.size + 1 + 1, 0, none⟩ (.int .i64 (t + 1 + 1 + 1 + 1)) = w6
  have A0 : w6.heap[w.heap.size]? = some (.cells s.vals 40 (0, 0)) := by rw [← hW]; exact Kit.set_far HA0.out _ (by simp; omega) _
  have A1 : w6.heap[w.heap.size + 1]? = some (.cells q.vals 46 (0, 0)) := by rw [← hW]; exact Kit.set_far HA1.out _ (by simp) _
  have A2 : w6.heap[w.heap.size + 2]? = some (.cells #[.int .i64 (t + 1 + 1 + 1 + 1)] 2 (0, 0)) := by rw [← hW]; exact Kit.set_ HA2.out 0 _ rfl
  have hB : Below w.heap.size w w6 := by rw [← hW]; exact hBp.setCell (by simp; omega) _
  clear hW hBp hBs HA0 HA1 HA2 t0 tf q0 q1 q3
  have hBp := hB; have hBs := hB.size; clear hB
  have q0 : w6.cell? ⟨w.heap.size + 1, 0, none⟩ = some (.int .i64 q.kind) := Kit.cell A1 0 _ rfl
  have q1 : w6.cell? ⟨w.heap.size + 1, 1, none⟩ = some (.int .u16 q.addr) := Kit.cell A1 1 _ rfl
  have q3 : w6.cell? ⟨w.heap.size + 1, 3, none⟩ = some (.int .i64 q.len) := Kit.cell A1 3 _ rfl
  have t0 : w6.cell? ⟨w.heap.size + 2, 0, none⟩ = some (.int .i64 (t + 1 + 1 + 1 + 1)) := Kit.cell A2 0 _ rfl
  have tf : w6.frozen? ⟨w.heap.size + 2, 0, none⟩ = false := Kit.frz A2 0
  have HA0 := Lib.hid A0; have HA1 := Lib.hid A1; have HA2 := Lib.hid A2; clear A0 A1 A2
  rw [rounds_succ]
  go_wp2_with fail
  go_region
  go_wp2_with fail
  go_ret3
  exact ⟨by simp only [Scr.io]; rfl, hBp.drew⟩
end Go.Proofs.YthbbbmomlehimaaR.Ts
