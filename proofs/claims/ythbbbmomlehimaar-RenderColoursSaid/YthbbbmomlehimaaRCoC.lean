import Derived.Test.YthbbbmomlehimaaRCoB
set_option linter.unusedVariables false
namespace Go.Proofs.YthbbbmomlehimaaR.Ts
open Go.RowKit

structure Rq where
  (kind addr value len : Int)
def Rq.vals (q : Rq) : Array Value := #[.int .i64 q.kind, .int .u16 q.addr, .int .u8 q.value, .int .i64 q.len]
def Rq.val (q : Rq) : Value := .agg q.vals
def Scr.go_ (s : Scr) (t : Int) : Int := t + s.wait t
def Scr.io (s : Scr) (slow even : Bool) (t : Int) : Int × Int :=
  match slow, even with
  | true, true => (s.go_ (s.go_ t + 1), s.go_ (s.go_ t + 1) + 1 + 1 + 1)
  | true, false => (s.go_ (s.go_ t + 1), s.go_ (s.go_ (s.go_ (s.go_ t + 1) + 1) + 1) + 1)
  | false, true => (s.go_ (t + 1), s.go_ (t + 1) + 1 + 1 + 1)
  | false, false => (t + 1, t + 1 + 1 + 1 + 1)
theorem Scr.wait_le (s : Scr) (t : Int) : 0 ≤ s.wait t ∧ s.wait t ≤ 6 := by
  unfold Scr.wait; split <;> omega
theorem Scr.go_le (s : Scr) (t : Int) : t ≤ s.go_ t ∧ s.go_ t ≤ t + 6 := by
  have := s.wait_le t; unfold Scr.go_; omega

/-- The contract of step's Check, for a request that may be (the walk of that function: another text). -/
def StepOk (q : Rq) : Prop := ∀ w, Calls Try.prog 87 #[q.val] w fun e w' => e = .returned (.int .i64 0) ∧ Below w.heap.size w w'
set_option maxRecDepth 100000 in
set_option maxHeartbeats 1000000 in
theorem req_idle (s : Scr) (q : Rq) (t : Int) (h : s.ok = true) (hq : StepOk q) (h1 : 0 ≤ t) (h2 : t ≤ 1099511626776) (w : World) (slow : Bool) (hk : q.kind = 6) (hl1 : 0 ≤ q.len) (hl2 : q.len ≤ 7) :
    Calls Try.prog 28 #[s.val, q.val, .bool slow, .int .i64 t] w fun e w' => e = .returned (.tuple #[.int .i64 (t), .int .i64 (t + q.len), .int .i64 0]) ∧ Below w.heap.size w w' := by
  have k6 : (q.kind == 6) = true := beq_iff_eq.2 hk
  clear hk
  have hc := check_calls s
  rw [Scr.code_yes h] at hc
  have HC := Lib.hid hc; clear hc
  have HQ := Lib.hid hq; clear hq
  go_enter Try.func28, Try.ntmps28
  simp only [Scr.val, Scr.vals, Rq.val, Rq.vals]
  go_wp2_with fail
  refine (HC.out _).mono ?_; rintro e w1 ⟨rfl, hb⟩
  have A0 : w1.heap[w.heap.size]? = some (.cells s.vals 40 (0, 0)) := Kit.kept hb (Kit.blk3a _ _ _ _)
  have A1 : w1.heap[w.heap.size + 1]? = some (.cells q.vals 46 (0, 0)) := Kit.kept hb (Kit.blk3b _ _ _ _)
  have A2 : w1.heap[w.heap.size + 2]? = some (.cells #[.int .i64 t] 2 (0, 0)) := Kit.kept hb (Kit.blk3c _ _ _ _)
  have hB1 := Kit.then_ (Kit.below3 _ _ _ _) hb
  clear hb
  have q0 : w1.cell? ⟨w.heap.size + 1, 0, none⟩ = some (.int .i64 q.kind) := Kit.cell A1 0 _ rfl
  have q1 : w1.cell? ⟨w.heap.size + 1, 1, none⟩ = some (.int .u16 q.addr) := Kit.cell A1 1 _ rfl
  have q2 : w1.cell? ⟨w.heap.size + 1, 2, none⟩ = some (.int .u8 q.value) := Kit.cell A1 2 _ rfl
  have q3 : w1.cell? ⟨w.heap.size + 1, 3, none⟩ = some (.int .i64 q.len) := Kit.cell A1 3 _ rfl
  have HA0 := Lib.hid A0; have HA1 := Lib.hid A1; have HA2 := Lib.hid A2; clear A0 A1 A2
  have HB1 := Lib.hid hB1; clear hB1
  go_wp2_with fail
  refine (HQ.out _).mono ?_; rintro e w2 ⟨rfl, hb⟩
  clear q0 q1 q2 q3
  have A0 := Kit.kept hb HA0.out
  have A1 := Kit.kept hb HA1.out
  have A2 := Kit.kept hb HA2.out
  have hB2 := Kit.then_ HB1.out hb
  clear hb HA0 HA1 HA2 HB1
  have q0 : w2.cell? ⟨w.heap.size + 1, 0, none⟩ = some (.int .i64 q.kind) := Kit.cell A1 0 _ rfl
  have q1 : w2.cell? ⟨w.heap.size + 1, 1, none⟩ = some (.int .u16 q.addr) := Kit.cell A1 1 _ rfl
  have q3 : w2.cell? ⟨w.heap.size + 1, 3, none⟩ = some (.int .i64 q.len) := Kit.cell A1 3 _ rfl
  have t0 : w2.cell? ⟨w.heap.size + 2, 0, none⟩ = some (.int .i64 (t)) := Kit.cell A2 0 _ rfl
  have tf : w2.frozen? ⟨w.heap.size + 2, 0, none⟩ = false := Kit.frz A2 0
  have HA0 := Lib.hid A0; have HA1 := Lib.hid A1; have HA2 := Lib.hid A2; clear A0 A1 A2
  have d1 : decide (t < 0) = false := decide_eq_false (by omega)
  have d2 : decide (1099511626776 < t) = false := decide_eq_false (by omega)
  go_wp2_with fail
  go_region
  go_wp2_with fail
  go_ret3
  exact ⟨rfl, by go_grown⟩
set_option maxRecDepth 100000 in
set_option maxHeartbeats 1000000 in
theorem req_fast (s : Scr) (q : Rq) (t : Int) (h : s.ok = true) (hq : StepOk q) (h1 : 0 ≤ t) (h2 : t ≤ 1099511626776) (w : World) (k6 : (q.kind == 6) = false) (k4 : (q.kind == 4) = false) (k5 : (q.kind == 5) = false) (hl1 : 0 ≤ q.len) (hl2 : q.len ≤ 7) :
    Calls Try.prog 28 #[s.val, q.val, .bool false, .int .i64 t] w fun e w' => e = .returned (.tuple #[.int .i64 (t), .int .i64 (t + q.len), .int .i64 0]) ∧ Below w.heap.size w w' := by
  have hc := check_calls s
  rw [Scr.code_yes h] at hc
  have HC := Lib.hid hc; clear hc
  have HQ := Lib.hid hq; clear hq
  go_enter Try.func28, Try.ntmps28
  simp only [Scr.val, Scr.vals, Rq.val, Rq.vals]
  go_wp2_with fail
  refine (HC.out _).mono ?_; rintro e w1 ⟨rfl, hb⟩
  have A0 : w1.heap[w.heap.size]? = some (.cells s.vals 40 (0, 0)) := Kit.kept hb (Kit.blk3a _ _ _ _)
  have A1 : w1.heap[w.heap.size + 1]? = some (.cells q.vals 46 (0, 0)) := Kit.kept hb (Kit.blk3b _ _ _ _)
  have A2 : w1.heap[w.heap.size + 2]? = some (.cells #[.int .i64 t] 2 (0, 0)) := Kit.kept hb (Kit.blk3c _ _ _ _)
  have hB1 := Kit.then_ (Kit.below3 _ _ _ _) hb
  clear hb
  have q0 : w1.cell? ⟨w.heap.size + 1, 0, none⟩ = some (.int .i64 q.kind) := Kit.cell A1 0 _ rfl
  have q1 : w1.cell? ⟨w.heap.size + 1, 1, none⟩ = some (.int .u16 q.addr) := Kit.cell A1 1 _ rfl
  have q2 : w1.cell? ⟨w.heap.size + 1, 2, none⟩ = some (.int .u8 q.value) := Kit.cell A1 2 _ rfl
  have q3 : w1.cell? ⟨w.heap.size + 1, 3, none⟩ = some (.int .i64 q.len) := Kit.cell A1 3 _ rfl
  have HA0 := Lib.hid A0; have HA1 := Lib.hid A1; have HA2 := Lib.hid A2; clear A0 A1 A2
  have HB1 := Lib.hid hB1; clear hB1
  go_wp2_with fail
  refine (HQ.out _).mono ?_; rintro e w2 ⟨rfl, hb⟩
  clear q0 q1 q2 q3
  have A0 := Kit.kept hb HA0.out
  have A1 := Kit.kept hb HA1.out
  have A2 := Kit.kept hb HA2.out
  have hB2 := Kit.then_ HB1.out hb
  clear hb HA0 HA1 HA2 HB1
  have q0 : w2.cell? ⟨w.heap.size + 1, 0, none⟩ = some (.int .i64 q.kind) := Kit.cell A1 0 _ rfl
  have q1 : w2.cell? ⟨w.heap.size + 1, 1, none⟩ = some (.int .u16 q.addr) := Kit.cell A1 1 _ rfl
  have q3 : w2.cell? ⟨w.heap.size + 1, 3, none⟩ = some (.int .i64 q.len) := Kit.cell A1 3 _ rfl
  have t0 : w2.cell? ⟨w.heap.size + 2, 0, none⟩ = some (.int .i64 (t)) := Kit.cell A2 0 _ rfl
  have tf : w2.frozen? ⟨w.heap.size + 2, 0, none⟩ = false := Kit.frz A2 0
  have HA0 := Lib.hid A0; have HA1 := Lib.hid A1; have HA2 := Lib.hid A2; clear A0 A1 A2
  have d1 : decide (t < 0) = false := decide_eq_false (by omega)
  have d2 : decide (1099511626776 < t) = false := decide_eq_false (by omega)
  go_wp2_with fail
  go_region
  go_wp2_with fail
  go_ret3
  exact ⟨rfl, by go_grown⟩
set_option maxRecDepth 100000 in
set_option maxHeartbeats 1000000 in
theorem req_slow (s : Scr) (q : Rq) (t : Int) (h : s.ok = true) (hq : StepOk q) (h1 : 0 ≤ t) (h2 : t ≤ 1099511626776) (w : World) (k6 : (q.kind == 6) = false) (k4 : (q.kind == 4) = false) (k5 : (q.kind == 5) = false) (hl1 : 0 ≤ q.len) (hl2 : q.len ≤ 7) :
    Calls Try.prog 28 #[s.val, q.val, .bool true, .int .i64 t] w fun e w' => e = .returned (.tuple #[.int .i64 (s.go_ t), .int .i64 (s.go_ t + q.len), .int .i64 0]) ∧ Below w.heap.size w w' := by
  have hg := s.go_le t
  obtain ⟨hg1, hg2⟩ := hg
  have hc := check_calls s
  rw [Scr.code_yes h] at hc
  have HC := Lib.hid hc; clear hc
  have HQ := Lib.hid hq; clear hq
  go_enter Try.func28, Try.ntmps28
  simp only [Scr.val, Scr.vals, Rq.val, Rq.vals]
  go_wp2_with fail
  refine (HC.out _).mono ?_; rintro e w1 ⟨rfl, hb⟩
  have A0 : w1.heap[w.heap.size]? = some (.cells s.vals 40 (0, 0)) := Kit.kept hb (Kit.blk3a _ _ _ _)
  have A1 : w1.heap[w.heap.size + 1]? = some (.cells q.vals 46 (0, 0)) := Kit.kept hb (Kit.blk3b _ _ _ _)
  have A2 : w1.heap[w.heap.size + 2]? = some (.cells #[.int .i64 t] 2 (0, 0)) := Kit.kept hb (Kit.blk3c _ _ _ _)
  have hB1 := Kit.then_ (Kit.below3 _ _ _ _) hb
  clear hb
  have q0 : w1.cell? ⟨w.heap.size + 1, 0, none⟩ = some (.int .i64 q.kind) := Kit.cell A1 0 _ rfl
  have q1 : w1.cell? ⟨w.heap.size + 1, 1, none⟩ = some (.int .u16 q.addr) := Kit.cell A1 1 _ rfl
  have q2 : w1.cell? ⟨w.heap.size + 1, 2, none⟩ = some (.int .u8 q.value) := Kit.cell A1 2 _ rfl
  have q3 : w1.cell? ⟨w.heap.size + 1, 3, none⟩ = some (.int .i64 q.len) := Kit.cell A1 3 _ rfl
  have HA0 := Lib.hid A0; have HA1 := Lib.hid A1; have HA2 := Lib.hid A2; clear A0 A1 A2
  have HB1 := Lib.hid hB1; clear hB1
  go_wp2_with fail
  refine (HQ.out _).mono ?_; rintro e w2 ⟨rfl, hb⟩
  clear q0 q1 q2 q3
  have A0 := Kit.kept hb HA0.out
  have A1 := Kit.kept hb HA1.out
  have A2 := Kit.kept hb HA2.out
  have hB2 := Kit.then_ HB1.out hb
  clear hb HA0 HA1 HA2 HB1
  have q0 : w2.cell? ⟨w.heap.size + 1, 0, none⟩ = some (.int .i64 q.kind) := Kit.cell A1 0 _ rfl
  have q1 : w2.cell? ⟨w.heap.size + 1, 1, none⟩ = some (.int .u16 q.addr) := Kit.cell A1 1 _ rfl
  have q3 : w2.cell? ⟨w.heap.size + 1, 3, none⟩ = some (.int .i64 q.len) := Kit.cell A1 3 _ rfl
  have t0 : w2.cell? ⟨w.heap.size + 2, 0, none⟩ = some (.int .i64 (t)) := Kit.cell A2 0 _ rfl
  have tf : w2.frozen? ⟨w.heap.size + 2, 0, none⟩ = false := Kit.frz A2 0
  have HA0 := Lib.hid A0; have HA1 := Lib.hid A1; have HA2 := Lib.hid A2; clear A0 A1 A2
  have d1 : decide (t < 0) = false := decide_eq_false (by omega)
  have d2 : decide (1099511626776 < t) = false := decide_eq_false (by omega)
  have hBs := hB2.size
  have hBp := hB2; clear hB2
  go_wp2_with fail
  refine (wait_closure s (t) h (by omega) (by omega) _ (w.heap.size + 2) w.heap.size HA2.out HA0.out (by omega)).mono ?_; rintro e w3 ⟨rfl, A2, hb⟩
  change w3.heap[w.heap.size + 2]? = some (.cells #[.int .i64 (s.go_ t)] 2 (0, 0)) at A2
  have A0 := hb.blk HA0.out (by omega)
  have A1 := hb.blk HA1.out (by omega)
  have hB := Kit.But.below hBp hb (by omega) hBs
  have hBs2 : w.heap.size ≤ w3.heap.size := hB.size
  clear hb hBp hBs HA0 HA1 HA2 t0 tf q0 q1 q3
  have hBp := hB; have hBs := hBs2; clear hB hBs2
  have q0 : w3.cell? ⟨w.heap.size + 1, 0, none⟩ = some (.int .i64 q.kind) := Kit.cell A1 0 _ rfl
  have q1 : w3.cell? ⟨w.heap.size + 1, 1, none⟩ = some (.int .u16 q.addr) := Kit.cell A1 1 _ rfl
  have q3 : w3.cell? ⟨w.heap.size + 1, 3, none⟩ = some (.int .i64 q.len) := Kit.cell A1 3 _ rfl
  have t0 : w3.cell? ⟨w.heap.size + 2, 0, none⟩ = some (.int .i64 (s.go_ t)) := Kit.cell A2 0 _ rfl
  have tf : w3.frozen? ⟨w.heap.size + 2, 0, none⟩ = false := Kit.frz A2 0
  have HA0 := Lib.hid A0; have HA1 := Lib.hid A1; have HA2 := Lib.hid A2; clear A0 A1 A2
  go_wp2_with fail
  go_region
  go_wp2_with fail
  go_ret3
  exact ⟨rfl, by go_grown⟩
end Go.Proofs.YthbbbmomlehimaaR.Ts
