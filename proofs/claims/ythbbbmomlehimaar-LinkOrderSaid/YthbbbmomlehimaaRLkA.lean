import Derived.Test.YthbbbmomlehimaaRKitB
import Derived.Laws.StructEq
set_option linter.unusedVariables false
namespace Go.Proofs.YthbbbmomlehimaaR.Lk
open Go.RowKit

/-! A message. -/
structure Mg where
  kind : Int
  time : Int
  cls : Int
  high : Int
  bank : Int
  place : Int
  value : Int
  deriving Inhabited, DecidableEq
def Mg.vals (m : Mg) : Array Value := #[.int .i64 m.kind, .int .i64 m.time, .int .i64 m.cls, .int .u8 m.high, .int .i64 m.bank, .int .i64 m.place, .int .u8 m.value]
def Mg.val (m : Mg) : Value := .agg m.vals
theorem p33 : Try.prog.stoodInHeld 33 = false := by kernel_rfl
def eqMg (a b c d e f g a' b' c' d' e' f' g' : Int) : Bool := a == a' && (b == b' && (c == c' && (d == d' && (e == e' && (f == f' && g == g')))))
theorem eqMg_rfl (a b c d e f g : Int) : eqMg a b c d e f g a b c d e f g = true := by simp [eqMg]
@[go_sem high] theorem eql33 (a b c d e f g a' b' c' d' e' f' g' : Int) (w : World) : (binOp .eql 33 (.agg #[.int .i64 a, .int .i64 b, .int .i64 c, .int .u8 d, .int .i64 e, .int .i64 f, .int .u8 g]) (.agg #[.int .i64 a', .int .i64 b', .int .i64 c', .int .u8 d', .int .i64 e', .int .i64 f', .int .u8 g'])).run Try.prog w = .ok (.bool (eqMg a b c d e f g a' b' c' d' e' f' g')) w := by
  have e1 := Try.underlying33
  rw [run_eql_struct, run_equalIn_struct w 9999 33 _ _ (by simp [Program.fieldsOf, e1]) p33]
  simp [Program.fieldsOf, e1, Op.eqFields, eqMg, go_sem, Try.underlying2, Try.underlying3, Try.underlying5, run_equalIn_int]
  repeat' split
  all_goals simp_all
@[go_sem high] theorem neq33 (a b c d e f g a' b' c' d' e' f' g' : Int) (w : World) : (binOp .neq 33 (.agg #[.int .i64 a, .int .i64 b, .int .i64 c, .int .u8 d, .int .i64 e, .int .i64 f, .int .u8 g]) (.agg #[.int .i64 a', .int .i64 b', .int .i64 c', .int .u8 d', .int .i64 e', .int .i64 f', .int .u8 g'])).run Try.prog w = .ok (.bool (!eqMg a b c d e f g a' b' c' d' e' f' g')) w := by
  have e1 := Try.underlying33
  rw [run_neq_struct, run_equalIn_struct w 9999 33 _ _ (by simp [Program.fieldsOf, e1]) p33]
  simp [Program.fieldsOf, e1, Op.eqFields, eqMg, go_sem, Try.underlying2, Try.underlying3, Try.underlying5, run_equalIn_int]
  repeat' split
  all_goals simp_all

def fit1 (m : Mg) : Bool := eqMg m.kind m.time m.cls m.high m.bank m.place m.value m.kind m.time 0 0 0 0 0
theorem none_calls (m : Mg) (w : World) : Calls Try.prog 130 #[m.val] w fun e w' => e = .returned (.bool (fit1 m)) ∧ Below w.heap.size w w' := by
  unfold Mg.val Mg.vals
  go_enter Try.func130, Try.ntmps130
  go_wp2_with fail
  go_ret
  exact ⟨rfl, Kit.below1 _ _⟩
def fit2 (m : Mg) : Bool := decide (1 ≤ m.cls) && (decide (m.cls ≤ 7) && eqMg m.kind m.time m.cls m.high m.bank m.place m.value m.kind m.time m.cls 0 0 0 m.value)
theorem out_calls (m : Mg) (w : World) : Calls Try.prog 131 #[m.val] w fun e w' => e = .returned (.bool (fit2 m)) ∧ Below w.heap.size w w' := by
  unfold Mg.val Mg.vals
  have H : ∀ b, fit2 m = b → (Calls Try.prog 131 #[.agg #[.int .i64 m.kind, .int .i64 m.time, .int .i64 m.cls, .int .u8 m.high, .int .i64 m.bank, .int .i64 m.place, .int .u8 m.value]] w fun e w' => e = .returned (.bool b) ∧ Below w.heap.size w w') := fun b hb => by
    cases d1 : (decide (1 ≤ m.cls))
    · skip
      obtain rfl : b = false := by rw [← hb]; unfold fit2; rw [d1]; rfl
      go_enter Try.func131, Try.ntmps131
      go_wp2_with fail
      go_ret
      exact ⟨rfl, Kit.below1 _ _⟩
    · skip
      cases d2 : (decide (m.cls ≤ 7))
      · skip
        obtain rfl : b = false := by rw [← hb]; unfold fit2; rw [d1, d2]; rfl
        go_enter Try.func131, Try.ntmps131
        go_wp2_with fail
        go_ret
        exact ⟨rfl, Kit.below1 _ _⟩
      · skip
        obtain rfl : b = eqMg m.kind m.time m.cls m.high m.bank m.place m.value m.kind m.time m.cls 0 0 0 m.value := by rw [← hb]; unfold fit2; rw [d1, d2]; rfl
        go_enter Try.func131, Try.ntmps131
        go_wp2_with fail
        go_ret
        exact ⟨rfl, Kit.below1 _ _⟩
  exact H _ rfl
def fit3 (m : Mg) : Bool := decide (1 ≤ m.cls) && (decide (m.cls ≤ 8) && eqMg m.kind m.time m.cls m.high m.bank m.place m.value m.kind m.time m.cls m.high 0 0 0)
theorem in_calls (m : Mg) (w : World) : Calls Try.prog 132 #[m.val] w fun e w' => e = .returned (.bool (fit3 m)) ∧ Below w.heap.size w w' := by
  unfold Mg.val Mg.vals
  have H : ∀ b, fit3 m = b → (Calls Try.prog 132 #[.agg #[.int .i64 m.kind, .int .i64 m.time, .int .i64 m.cls, .int .u8 m.high, .int .i64 m.bank, .int .i64 m.place, .int .u8 m.value]] w fun e w' => e = .returned (.bool b) ∧ Below w.heap.size w w') := fun b hb => by
    cases d1 : (decide (1 ≤ m.cls))
    · skip
      obtain rfl : b = false := by rw [← hb]; unfold fit3; rw [d1]; rfl
      go_enter Try.func132, Try.ntmps132
      go_wp2_with fail
      go_ret
      exact ⟨rfl, Kit.below1 _ _⟩
    · skip
      cases d2 : (decide (m.cls ≤ 8))
      · skip
        obtain rfl : b = false := by rw [← hb]; unfold fit3; rw [d1, d2]; rfl
        go_enter Try.func132, Try.ntmps132
        go_wp2_with fail
        go_ret
        exact ⟨rfl, Kit.below1 _ _⟩
      · skip
        obtain rfl : b = eqMg m.kind m.time m.cls m.high m.bank m.place m.value m.kind m.time m.cls m.high 0 0 0 := by rw [← hb]; unfold fit3; rw [d1, d2]; rfl
        go_enter Try.func132, Try.ntmps132
        go_wp2_with fail
        go_ret
        exact ⟨rfl, Kit.below1 _ _⟩
  exact H _ rfl
def fit4 (m : Mg) : Bool := (m.bank == 5 || m.bank == 7) && (decide (0 ≤ m.place) && (decide (m.place < 16384) && eqMg m.kind m.time m.cls m.high m.bank m.place m.value m.kind m.time 0 0 m.bank m.place m.value))
theorem screen_calls (m : Mg) (w : World) : Calls Try.prog 133 #[m.val] w fun e w' => e = .returned (.bool (fit4 m)) ∧ Below w.heap.size w w' := by
  unfold Mg.val Mg.vals
  have H : ∀ b, fit4 m = b → (Calls Try.prog 133 #[.agg #[.int .i64 m.kind, .int .i64 m.time, .int .i64 m.cls, .int .u8 m.high, .int .i64 m.bank, .int .i64 m.place, .int .u8 m.value]] w fun e w' => e = .returned (.bool b) ∧ Below w.heap.size w w') := fun b hb => by
    cases d1 : (m.bank == 5)
    · skip
      cases d2 : (m.bank == 7)
      · skip
        obtain rfl : b = false := by rw [← hb]; unfold fit4; rw [d1, d2]; rfl
        go_enter Try.func133, Try.ntmps133
        go_wp2_with fail
        go_ret
        exact ⟨rfl, Kit.below1 _ _⟩
      · skip
        cases d3 : (decide (0 ≤ m.place))
        · skip
          obtain rfl : b = false := by rw [← hb]; unfold fit4; rw [d1, d2, d3]; rfl
          go_enter Try.func133, Try.ntmps133
          go_wp2_with fail
          go_ret
          exact ⟨rfl, Kit.below1 _ _⟩
        · skip
          cases d4 : (decide (m.place < 16384))
          · skip
            obtain rfl : b = false := by rw [← hb]; unfold fit4; rw [d1, d2, d3, d4]; rfl
            go_enter Try.func133, Try.ntmps133
            go_wp2_with fail
            go_ret
            exact ⟨rfl, Kit.below1 _ _⟩
          · skip
            obtain rfl : b = eqMg m.kind m.time m.cls m.high m.bank m.place m.value m.kind m.time 0 0 m.bank m.place m.value := by rw [← hb]; unfold fit4; rw [d1, d2, d3, d4]; rfl
            go_enter Try.func133, Try.ntmps133
            go_wp2_with fail
            go_ret
            exact ⟨rfl, Kit.below1 _ _⟩
    · skip
      cases d3 : (decide (0 ≤ m.place))
      · skip
        obtain rfl : b = false := by rw [← hb]; unfold fit4; rw [d1, d3]; rfl
        go_enter Try.func133, Try.ntmps133
        go_wp2_with fail
        go_ret
        exact ⟨rfl, Kit.below1 _ _⟩
      · skip
        cases d4 : (decide (m.place < 16384))
        · skip
          obtain rfl : b = false := by rw [← hb]; unfold fit4; rw [d1, d3, d4]; rfl
          go_enter Try.func133, Try.ntmps133
          go_wp2_with fail
          go_ret
          exact ⟨rfl, Kit.below1 _ _⟩
        · skip
          obtain rfl : b = eqMg m.kind m.time m.cls m.high m.bank m.place m.value m.kind m.time 0 0 m.bank m.place m.value := by rw [← hb]; unfold fit4; rw [d1, d3, d4]; rfl
          go_enter Try.func133, Try.ntmps133
          go_wp2_with fail
          go_ret
          exact ⟨rfl, Kit.below1 _ _⟩
  exact H _ rfl
def fit6 (m : Mg) : Bool := eqMg m.kind m.time m.cls m.high m.bank m.place m.value m.kind m.time 0 0 0 0 m.value
theorem reply_calls (m : Mg) (w : World) : Calls Try.prog 134 #[m.val] w fun e w' => e = .returned (.bool (fit6 m)) ∧ Below w.heap.size w w' := by
  unfold Mg.val Mg.vals
  go_enter Try.func134, Try.ntmps134
  go_wp2_with fail
  go_ret
  exact ⟨rfl, Kit.below1 _ _⟩
def fitsV : Array Value := #[.nilFunc, .func (Fn.func 131) #[] #[], .func (Fn.func 132) #[] #[], .func (Fn.func 133) #[] #[], .func (Fn.func 130) #[] #[], .func (Fn.func 130) #[] #[], .func (Fn.func 134) #[] #[]]
theorem fits_calls (w : World) : Calls Try.prog 83 #[] w fun e w' => e = .returned (.agg fitsV) ∧ Below w.heap.size w w' := by
  unfold fitsV
  go_enter Try.func83, Try.ntmps83
  go_wp2_with fail
  exact bodyPost_ret (Kit.res_c rfl w.heap.size rfl (Kit.blk1 _ _) Try.underlying130 rfl (by kernel_rfl)) rfl ⟨rfl, Kit.below1 _ _⟩
theorem idx130 (k : Nat) (v : Value) (hk : k < 7) (hv : fitsV[k]? = some v) (w : World) : (Instr.index 130 (.agg fitsV) (.int .i64 k)).run Try.prog w = .ok v w := by
  have hs : ∀ w, (Go.sizeOf 129).run Try.prog w = .ok 1 w := fun w => by kernel_rfl
  simp [Instr.index, run_underlying Try.underlying130, asIntOf, go_sem, hs, hk, hv]

/-- May a message be? -/
def fit (m : Mg) : Bool := if m.kind = 1 then fit2 m else if m.kind = 2 then fit3 m else if m.kind = 3 then fit4 m else if m.kind = 6 then fit6 m else fit1 m
def chk (m : Mg) : Bool := decide (1 ≤ m.kind) && (decide (m.kind ≤ 6) && (decide (0 ≤ m.time) && (decide (m.time ≤ 1099511627776) && fit m)))
def chkE (m : Mg) : Int := if chk m then 0 else 2

set_option maxRecDepth 100000 in
theorem check_no0 (m : Mg)  (hk : m.kind < 1) (w : World) : Calls Try.prog 18 #[m.val] w fun e w' => e = .returned (.int .i64 2) ∧ Below w.heap.size w w' := by
  have dk : decide (m.kind < 1) = true := decide_eq_true hk
  unfold Mg.val Mg.vals at *
  go_enter Try.func18, Try.ntmps18
  go_wp2_with fail
  have B0 := Kit.blk1 w (.cells #[.int .i64 m.kind, .int .i64 m.time, .int .i64 m.cls, .int .u8 m.high, .int .i64 m.bank, .int .i64 m.place, .int .u8 m.value] 33 (0, 0))
  have hB := Kit.below1 w (.cells #[.int .i64 m.kind, .int .i64 m.time, .int .i64 m.cls, .int .u8 m.high, .int .i64 m.bank, .int .i64 m.place, .int .u8 m.value] 33 (0, 0))
  generalize w.alloc (.cells #[.int .i64 m.kind, .int .i64 m.time, .int .i64 m.cls, .int .u8 m.high, .int .i64 m.bank, .int .i64 m.place, .int .u8 m.value] 33 (0, 0)) = W at *
  have y0 := fun d os => cell_regrown (Kit.cell B0 0 _ rfl : W.cell? ⟨w.heap.size, 0, none⟩ = some (.int .i64 m.kind)) d os
  have y1 := fun d os => cell_regrown (Kit.cell B0 1 _ rfl : W.cell? ⟨w.heap.size, 1, none⟩ = some (.int .i64 m.time)) d os
  have y2 := fun d os => cell_regrown (Kit.cell B0 2 _ rfl : W.cell? ⟨w.heap.size, 2, none⟩ = some (.int .i64 m.cls)) d os
  have y3 := fun d os => cell_regrown (Kit.cell B0 3 _ rfl : W.cell? ⟨w.heap.size, 3, none⟩ = some (.int .u8 m.high)) d os
  have y4 := fun d os => cell_regrown (Kit.cell B0 4 _ rfl : W.cell? ⟨w.heap.size, 4, none⟩ = some (.int .i64 m.bank)) d os
  have y5 := fun d os => cell_regrown (Kit.cell B0 5 _ rfl : W.cell? ⟨w.heap.size, 5, none⟩ = some (.int .i64 m.place)) d os
  have y6 := fun d os => cell_regrown (Kit.cell B0 6 _ rfl : W.cell? ⟨w.heap.size, 6, none⟩ = some (.int .u8 m.value)) d os
  clear B0
  have HB := Lib.hid hB; clear hB
  refine wp_region_quiet_below (by kernel_rfl) (by kernel_rfl) ?_
  repeat (go_big_quiet_step ((fail)))
  refine wpQuiet_nil ?_
  intro _ hw'
  obtain ⟨⟨dq, osq⟩, hw''⟩ := hw'
  subst hw''
  have hbb := below_regrown W dq osq
  generalize Sort.grow (redrawn W dq) osq = w1 at *
  clear y0 y1 y2 y3 y4 y5 y6
  have HB1 := Lib.hid (Kit.then_ HB.out hbb); clear hbb
  go_wp2_with fail
  go_ret
  exact ⟨rfl, HB1.out⟩

set_option maxRecDepth 100000 in
theorem check_no1 (m : Mg) (h1 : 1 ≤ m.kind) (hk : 6 < m.kind) (w : World) : Calls Try.prog 18 #[m.val] w fun e w' => e = .returned (.int .i64 2) ∧ Below w.heap.size w w' := by
  have d1 : decide (m.kind < 1) = false := decide_eq_false (by omega)
  have dk : decide (6 < m.kind) = true := decide_eq_true hk
  unfold Mg.val Mg.vals at *
  go_enter Try.func18, Try.ntmps18
  go_wp2_with fail
  have B0 := Kit.blk1 w (.cells #[.int .i64 m.kind, .int .i64 m.time, .int .i64 m.cls, .int .u8 m.high, .int .i64 m.bank, .int .i64 m.place, .int .u8 m.value] 33 (0, 0))
  have hB := Kit.below1 w (.cells #[.int .i64 m.kind, .int .i64 m.time, .int .i64 m.cls, .int .u8 m.high, .int .i64 m.bank, .int .i64 m.place, .int .u8 m.value] 33 (0, 0))
  generalize w.alloc (.cells #[.int .i64 m.kind, .int .i64 m.time, .int .i64 m.cls, .int .u8 m.high, .int .i64 m.bank, .int .i64 m.place, .int .u8 m.value] 33 (0, 0)) = W at *
  have y0 := fun d os => cell_regrown (Kit.cell B0 0 _ rfl : W.cell? ⟨w.heap.size, 0, none⟩ = some (.int .i64 m.kind)) d os
  have y1 := fun d os => cell_regrown (Kit.cell B0 1 _ rfl : W.cell? ⟨w.heap.size, 1, none⟩ = some (.int .i64 m.time)) d os
  have y2 := fun d os => cell_regrown (Kit.cell B0 2 _ rfl : W.cell? ⟨w.heap.size, 2, none⟩ = some (.int .i64 m.cls)) d os
  have y3 := fun d os => cell_regrown (Kit.cell B0 3 _ rfl : W.cell? ⟨w.heap.size, 3, none⟩ = some (.int .u8 m.high)) d os
  have y4 := fun d os => cell_regrown (Kit.cell B0 4 _ rfl : W.cell? ⟨w.heap.size, 4, none⟩ = some (.int .i64 m.bank)) d os
  have y5 := fun d os => cell_regrown (Kit.cell B0 5 _ rfl : W.cell? ⟨w.heap.size, 5, none⟩ = some (.int .i64 m.place)) d os
  have y6 := fun d os => cell_regrown (Kit.cell B0 6 _ rfl : W.cell? ⟨w.heap.size, 6, none⟩ = some (.int .u8 m.value)) d os
  clear B0
  have HB := Lib.hid hB; clear hB
  refine wp_region_quiet_below (by kernel_rfl) (by kernel_rfl) ?_
  repeat (go_big_quiet_step ((fail)))
  refine wpQuiet_nil ?_
  intro _ hw'
  obtain ⟨⟨dq, osq⟩, hw''⟩ := hw'
  subst hw''
  have hbb := below_regrown W dq osq
  generalize Sort.grow (redrawn W dq) osq = w1 at *
  clear y0 y1 y2 y3 y4 y5 y6
  have HB1 := Lib.hid (Kit.then_ HB.out hbb); clear hbb
  go_wp2_with fail
  go_ret
  exact ⟨rfl, HB1.out⟩

set_option maxRecDepth 100000 in
theorem check_no2 (m : Mg) (h1 : 1 ≤ m.kind) (h2 : m.kind ≤ 6) (hk : m.time < 0) (w : World) : Calls Try.prog 18 #[m.val] w fun e w' => e = .returned (.int .i64 2) ∧ Below w.heap.size w w' := by
  have d1 : decide (m.kind < 1) = false := decide_eq_false (by omega)
  have d2 : decide (6 < m.kind) = false := decide_eq_false (by omega)
  have dk : decide (m.time < 0) = true := decide_eq_true hk
  unfold Mg.val Mg.vals at *
  go_enter Try.func18, Try.ntmps18
  go_wp2_with fail
  have B0 := Kit.blk1 w (.cells #[.int .i64 m.kind, .int .i64 m.time, .int .i64 m.cls, .int .u8 m.high, .int .i64 m.bank, .int .i64 m.place, .int .u8 m.value] 33 (0, 0))
  have hB := Kit.below1 w (.cells #[.int .i64 m.kind, .int .i64 m.time, .int .i64 m.cls, .int .u8 m.high, .int .i64 m.bank, .int .i64 m.place, .int .u8 m.value] 33 (0, 0))
  generalize w.alloc (.cells #[.int .i64 m.kind, .int .i64 m.time, .int .i64 m.cls, .int .u8 m.high, .int .i64 m.bank, .int .i64 m.place, .int .u8 m.value] 33 (0, 0)) = W at *
  have y0 := fun d os => cell_regrown (Kit.cell B0 0 _ rfl : W.cell? ⟨w.heap.size, 0, none⟩ = some (.int .i64 m.kind)) d os
  have y1 := fun d os => cell_regrown (Kit.cell B0 1 _ rfl : W.cell? ⟨w.heap.size, 1, none⟩ = some (.int .i64 m.time)) d os
  have y2 := fun d os => cell_regrown (Kit.cell B0 2 _ rfl : W.cell? ⟨w.heap.size, 2, none⟩ = some (.int .i64 m.cls)) d os
  have y3 := fun d os => cell_regrown (Kit.cell B0 3 _ rfl : W.cell? ⟨w.heap.size, 3, none⟩ = some (.int .u8 m.high)) d os
  have y4 := fun d os => cell_regrown (Kit.cell B0 4 _ rfl : W.cell? ⟨w.heap.size, 4, none⟩ = some (.int .i64 m.bank)) d os
  have y5 := fun d os => cell_regrown (Kit.cell B0 5 _ rfl : W.cell? ⟨w.heap.size, 5, none⟩ = some (.int .i64 m.place)) d os
  have y6 := fun d os => cell_regrown (Kit.cell B0 6 _ rfl : W.cell? ⟨w.heap.size, 6, none⟩ = some (.int .u8 m.value)) d os
  clear B0
  have HB := Lib.hid hB; clear hB
  refine wp_region_quiet_below (by kernel_rfl) (by kernel_rfl) ?_
  repeat (go_big_quiet_step ((fail)))
  refine wpQuiet_nil ?_
  intro _ hw'
  obtain ⟨⟨dq, osq⟩, hw''⟩ := hw'
  subst hw''
  have hbb := below_regrown W dq osq
  generalize Sort.grow (redrawn W dq) osq = w1 at *
  clear y0 y1 y2 y3 y4 y5 y6
  have HB1 := Lib.hid (Kit.then_ HB.out hbb); clear hbb
  go_wp2_with fail
  go_ret
  exact ⟨rfl, HB1.out⟩

set_option maxRecDepth 100000 in
theorem check_no3 (m : Mg) (h1 : 1 ≤ m.kind) (h2 : m.kind ≤ 6) (h3 : 0 ≤ m.time) (hk : 1099511627776 < m.time) (w : World) : Calls Try.prog 18 #[m.val] w fun e w' => e = .returned (.int .i64 2) ∧ Below w.heap.size w w' := by
  have d1 : decide (m.kind < 1) = false := decide_eq_false (by omega)
  have d2 : decide (6 < m.kind) = false := decide_eq_false (by omega)
  have d3 : decide (m.time < 0) = false := decide_eq_false (by omega)
  have dk : decide (1099511627776 < m.time) = true := decide_eq_true hk
  unfold Mg.val Mg.vals at *
  go_enter Try.func18, Try.ntmps18
  go_wp2_with fail
  have B0 := Kit.blk1 w (.cells #[.int .i64 m.kind, .int .i64 m.time, .int .i64 m.cls, .int .u8 m.high, .int .i64 m.bank, .int .i64 m.place, .int .u8 m.value] 33 (0, 0))
  have hB := Kit.below1 w (.cells #[.int .i64 m.kind, .int .i64 m.time, .int .i64 m.cls, .int .u8 m.high, .int .i64 m.bank, .int .i64 m.place, .int .u8 m.value] 33 (0, 0))
  generalize w.alloc (.cells #[.int .i64 m.kind, .int .i64 m.time, .int .i64 m.cls, .int .u8 m.high, .int .i64 m.bank, .int .i64 m.place, .int .u8 m.value] 33 (0, 0)) = W at *
  have y0 := fun d os => cell_regrown (Kit.cell B0 0 _ rfl : W.cell? ⟨w.heap.size, 0, none⟩ = some (.int .i64 m.kind)) d os
  have y1 := fun d os => cell_regrown (Kit.cell B0 1 _ rfl : W.cell? ⟨w.heap.size, 1, none⟩ = some (.int .i64 m.time)) d os
  have y2 := fun d os => cell_regrown (Kit.cell B0 2 _ rfl : W.cell? ⟨w.heap.size, 2, none⟩ = some (.int .i64 m.cls)) d os
  have y3 := fun d os => cell_regrown (Kit.cell B0 3 _ rfl : W.cell? ⟨w.heap.size, 3, none⟩ = some (.int .u8 m.high)) d os
  have y4 := fun d os => cell_regrown (Kit.cell B0 4 _ rfl : W.cell? ⟨w.heap.size, 4, none⟩ = some (.int .i64 m.bank)) d os
  have y5 := fun d os => cell_regrown (Kit.cell B0 5 _ rfl : W.cell? ⟨w.heap.size, 5, none⟩ = some (.int .i64 m.place)) d os
  have y6 := fun d os => cell_regrown (Kit.cell B0 6 _ rfl : W.cell? ⟨w.heap.size, 6, none⟩ = some (.int .u8 m.value)) d os
  clear B0
  have HB := Lib.hid hB; clear hB
  refine wp_region_quiet_below (by kernel_rfl) (by kernel_rfl) ?_
  repeat (go_big_quiet_step ((fail)))
  refine wpQuiet_nil ?_
  intro _ hw'
  obtain ⟨⟨dq, osq⟩, hw''⟩ := hw'
  subst hw''
  have hbb := below_regrown W dq osq
  generalize Sort.grow (redrawn W dq) osq = w1 at *
  clear y0 y1 y2 y3 y4 y5 y6
  have HB1 := Lib.hid (Kit.then_ HB.out hbb); clear hbb
  go_wp2_with fail
  go_ret
  exact ⟨rfl, HB1.out⟩

set_option maxRecDepth 100000 in
theorem check_1_true (m : Mg) (hm : m.kind = 1) (h3 : 0 ≤ m.time) (h4 : m.time ≤ 1099511627776) (hf : fit2 m = true) (w : World) : Calls Try.prog 18 #[m.val] w fun e w' => e = .returned (.int .i64 0) ∧ Below w.heap.size w w' := by
  obtain ⟨m_kind, m_time, m_cls, m_high, m_bank, m_place, m_value⟩ := m
  simp only at hm h3 h4
  subst hm
  have hc := out_calls ⟨1, m_time, m_cls, m_high, m_bank, m_place, m_value⟩
  rw [hf] at hc
  unfold Mg.val Mg.vals at *
  simp only at hc ⊢
  have HC := Lib.hid hc; clear hc hf
  have d3 : decide (m_time < 0) = false := decide_eq_false (by omega)
  have d4 : decide (1099511627776 < m_time) = false := decide_eq_false (by omega)
  have ix : ∀ w, (Instr.index 130 (.agg fitsV) (.int .i64 1)).run Try.prog w = .ok (.func (Fn.func 131) #[] #[]) w := fun w => idx130 1 _ (by decide) rfl w
  have HF := Lib.hid fits_calls
  generalize fitsV = FV at *
  go_enter Try.func18, Try.ntmps18
  go_wp2_with fail
  have B0 := Kit.blk1 w (.cells #[.int .i64 1, .int .i64 m_time, .int .i64 m_cls, .int .u8 m_high, .int .i64 m_bank, .int .i64 m_place, .int .u8 m_value] 33 (0, 0))
  have hB := Kit.below1 w (.cells #[.int .i64 1, .int .i64 m_time, .int .i64 m_cls, .int .u8 m_high, .int .i64 m_bank, .int .i64 m_place, .int .u8 m_value] 33 (0, 0))
  generalize w.alloc (.cells #[.int .i64 1, .int .i64 m_time, .int .i64 m_cls, .int .u8 m_high, .int .i64 m_bank, .int .i64 m_place, .int .u8 m_value] 33 (0, 0)) = W at *
  have y0 := fun d os => cell_regrown (Kit.cell B0 0 _ rfl : W.cell? ⟨w.heap.size, 0, none⟩ = some (.int .i64 1)) d os
  have y1 := fun d os => cell_regrown (Kit.cell B0 1 _ rfl : W.cell? ⟨w.heap.size, 1, none⟩ = some (.int .i64 m_time)) d os
  have y2 := fun d os => cell_regrown (Kit.cell B0 2 _ rfl : W.cell? ⟨w.heap.size, 2, none⟩ = some (.int .i64 m_cls)) d os
  have y3 := fun d os => cell_regrown (Kit.cell B0 3 _ rfl : W.cell? ⟨w.heap.size, 3, none⟩ = some (.int .u8 m_high)) d os
  have y4 := fun d os => cell_regrown (Kit.cell B0 4 _ rfl : W.cell? ⟨w.heap.size, 4, none⟩ = some (.int .i64 m_bank)) d os
  have y5 := fun d os => cell_regrown (Kit.cell B0 5 _ rfl : W.cell? ⟨w.heap.size, 5, none⟩ = some (.int .i64 m_place)) d os
  have y6 := fun d os => cell_regrown (Kit.cell B0 6 _ rfl : W.cell? ⟨w.heap.size, 6, none⟩ = some (.int .u8 m_value)) d os
  clear B0
  have HB := Lib.hid hB; clear hB
  refine wp_region_quiet_below (by kernel_rfl) (by kernel_rfl) ?_
  repeat (go_big_quiet_step ((first | (go_at_call 83; exact Calls.regrown_of (HF.out _)) | (go_at_call 131; exact Calls.regrown_of (HC.out _)))))
  refine wpQuiet_nil ?_
  intro _ hw'
  obtain ⟨⟨dq, osq⟩, hw''⟩ := hw'
  subst hw''
  have hbb := below_regrown W dq osq
  generalize Sort.grow (redrawn W dq) osq = w1 at *
  clear y0 y1 y2 y3 y4 y5 y6
  have HB1 := Lib.hid (Kit.then_ HB.out hbb); clear hbb
  go_wp2_with fail
  go_ret
  exact ⟨rfl, HB1.out⟩

set_option maxRecDepth 100000 in
theorem check_1_false (m : Mg) (hm : m.kind = 1) (h3 : 0 ≤ m.time) (h4 : m.time ≤ 1099511627776) (hf : fit2 m = false) (w : World) : Calls Try.prog 18 #[m.val] w fun e w' => e = .returned (.int .i64 2) ∧ Below w.heap.size w w' := by
  obtain ⟨m_kind, m_time, m_cls, m_high, m_bank, m_place, m_value⟩ := m
  simp only at hm h3 h4
  subst hm
  have hc := out_calls ⟨1, m_time, m_cls, m_high, m_bank, m_place, m_value⟩
  rw [hf] at hc
  unfold Mg.val Mg.vals at *
  simp only at hc ⊢
  have HC := Lib.hid hc; clear hc hf
  have d3 : decide (m_time < 0) = false := decide_eq_false (by omega)
  have d4 : decide (1099511627776 < m_time) = false := decide_eq_false (by omega)
  have ix : ∀ w, (Instr.index 130 (.agg fitsV) (.int .i64 1)).run Try.prog w = .ok (.func (Fn.func 131) #[] #[]) w := fun w => idx130 1 _ (by decide) rfl w
  have HF := Lib.hid fits_calls
  generalize fitsV = FV at *
  go_enter Try.func18, Try.ntmps18
  go_wp2_with fail
  have B0 := Kit.blk1 w (.cells #[.int .i64 1, .int .i64 m_time, .int .i64 m_cls, .int .u8 m_high, .int .i64 m_bank, .int .i64 m_place, .int .u8 m_value] 33 (0, 0))
  have hB := Kit.below1 w (.cells #[.int .i64 1, .int .i64 m_time, .int .i64 m_cls, .int .u8 m_high, .int .i64 m_bank, .int .i64 m_place, .int .u8 m_value] 33 (0, 0))
  generalize w.alloc (.cells #[.int .i64 1, .int .i64 m_time, .int .i64 m_cls, .int .u8 m_high, .int .i64 m_bank, .int .i64 m_place, .int .u8 m_value] 33 (0, 0)) = W at *
  have y0 := fun d os => cell_regrown (Kit.cell B0 0 _ rfl : W.cell? ⟨w.heap.size, 0, none⟩ = some (.int .i64 1)) d os
  have y1 := fun d os => cell_regrown (Kit.cell B0 1 _ rfl : W.cell? ⟨w.heap.size, 1, none⟩ = some (.int .i64 m_time)) d os
  have y2 := fun d os => cell_regrown (Kit.cell B0 2 _ rfl : W.cell? ⟨w.heap.size, 2, none⟩ = some (.int .i64 m_cls)) d os
  have y3 := fun d os => cell_regrown (Kit.cell B0 3 _ rfl : W.cell? ⟨w.heap.size, 3, none⟩ = some (.int .u8 m_high)) d os
  have y4 := fun d os => cell_regrown (Kit.cell B0 4 _ rfl : W.cell? ⟨w.heap.size, 4, none⟩ = some (.int .i64 m_bank)) d os
  have y5 := fun d os => cell_regrown (Kit.cell B0 5 _ rfl : W.cell? ⟨w.heap.size, 5, none⟩ = some (.int .i64 m_place)) d os
  have y6 := fun d os => cell_regrown (Kit.cell B0 6 _ rfl : W.cell? ⟨w.heap.size, 6, none⟩ = some (.int .u8 m_value)) d os
  clear B0
  have HB := Lib.hid hB; clear hB
  refine wp_region_quiet_below (by kernel_rfl) (by kernel_rfl) ?_
  repeat (go_big_quiet_step ((first | (go_at_call 83; exact Calls.regrown_of (HF.out _)) | (go_at_call 131; exact Calls.regrown_of (HC.out _)))))
  refine wpQuiet_nil ?_
  intro _ hw'
  obtain ⟨⟨dq, osq⟩, hw''⟩ := hw'
  subst hw''
  have hbb := below_regrown W dq osq
  generalize Sort.grow (redrawn W dq) osq = w1 at *
  clear y0 y1 y2 y3 y4 y5 y6
  have HB1 := Lib.hid (Kit.then_ HB.out hbb); clear hbb
  go_wp2_with fail
  go_ret
  exact ⟨rfl, HB1.out⟩

set_option maxRecDepth 100000 in
theorem check_2_true (m : Mg) (hm : m.kind = 2) (h3 : 0 ≤ m.time) (h4 : m.time ≤ 1099511627776) (hf : fit3 m = true) (w : World) : Calls Try.prog 18 #[m.val] w fun e w' => e = .returned (.int .i64 0) ∧ Below w.heap.size w w' := by
  obtain ⟨m_kind, m_time, m_cls, m_high, m_bank, m_place, m_value⟩ := m
  simp only at hm h3 h4
  subst hm
  have hc := in_calls ⟨2, m_time, m_cls, m_high, m_bank, m_place, m_value⟩
  rw [hf] at hc
  unfold Mg.val Mg.vals at *
  simp only at hc ⊢
  have HC := Lib.hid hc; clear hc hf
  have d3 : decide (m_time < 0) = false := decide_eq_false (by omega)
  have d4 : decide (1099511627776 < m_time) = false := decide_eq_false (by omega)
  have ix : ∀ w, (Instr.index 130 (.agg fitsV) (.int .i64 2)).run Try.prog w = .ok (.func (Fn.func 132) #[] #[]) w := fun w => idx130 2 _ (by decide) rfl w
  have HF := Lib.hid fits_calls
  generalize fitsV = FV at *
  go_enter Try.func18, Try.ntmps18
  go_wp2_with fail
  have B0 := Kit.blk1 w (.cells #[.int .i64 2, .int .i64 m_time, .int .i64 m_cls, .int .u8 m_high, .int .i64 m_bank, .int .i64 m_place, .int .u8 m_value] 33 (0, 0))
  have hB := Kit.below1 w (.cells #[.int .i64 2, .int .i64 m_time, .int .i64 m_cls, .int .u8 m_high, .int .i64 m_bank, .int .i64 m_place, .int .u8 m_value] 33 (0, 0))
  generalize w.alloc (.cells #[.int .i64 2, .int .i64 m_time, .int .i64 m_cls, .int .u8 m_high, .int .i64 m_bank, .int .i64 m_place, .int .u8 m_value] 33 (0, 0)) = W at *
  have y0 := fun d os => cell_regrown (Kit.cell B0 0 _ rfl : W.cell? ⟨w.heap.size, 0, none⟩ = some (.int .i64 2)) d os
  have y1 := fun d os => cell_regrown (Kit.cell B0 1 _ rfl : W.cell? ⟨w.heap.size, 1, none⟩ = some (.int .i64 m_time)) d os
  have y2 := fun d os => cell_regrown (Kit.cell B0 2 _ rfl : W.cell? ⟨w.heap.size, 2, none⟩ = some (.int .i64 m_cls)) d os
  have y3 := fun d os => cell_regrown (Kit.cell B0 3 _ rfl : W.cell? ⟨w.heap.size, 3, none⟩ = some (.int .u8 m_high)) d os
  have y4 := fun d os => cell_regrown (Kit.cell B0 4 _ rfl : W.cell? ⟨w.heap.size, 4, none⟩ = some (.int .i64 m_bank)) d os
  have y5 := fun d os => cell_regrown (Kit.cell B0 5 _ rfl : W.cell? ⟨w.heap.size, 5, none⟩ = some (.int .i64 m_place)) d os
  have y6 := fun d os => cell_regrown (Kit.cell B0 6 _ rfl : W.cell? ⟨w.heap.size, 6, none⟩ = some (.int .u8 m_value)) d os
  clear B0
  have HB := Lib.hid hB; clear hB
  refine wp_region_quiet_below (by kernel_rfl) (by kernel_rfl) ?_
  repeat (go_big_quiet_step ((first | (go_at_call 83; exact Calls.regrown_of (HF.out _)) | (go_at_call 132; exact Calls.regrown_of (HC.out _)))))
  refine wpQuiet_nil ?_
  intro _ hw'
  obtain ⟨⟨dq, osq⟩, hw''⟩ := hw'
  subst hw''
  have hbb := below_regrown W dq osq
  generalize Sort.grow (redrawn W dq) osq = w1 at *
  clear y0 y1 y2 y3 y4 y5 y6
  have HB1 := Lib.hid (Kit.then_ HB.out hbb); clear hbb
  go_wp2_with fail
  go_ret
  exact ⟨rfl, HB1.out⟩

set_option maxRecDepth 100000 in
theorem check_2_false (m : Mg) (hm : m.kind = 2) (h3 : 0 ≤ m.time) (h4 : m.time ≤ 1099511627776) (hf : fit3 m = false) (w : World) : Calls Try.prog 18 #[m.val] w fun e w' => e = .returned (.int .i64 2) ∧ Below w.heap.size w w' := by
  obtain ⟨m_kind, m_time, m_cls, m_high, m_bank, m_place, m_value⟩ := m
  simp only at hm h3 h4
  subst hm
  have hc := in_calls ⟨2, m_time, m_cls, m_high, m_bank, m_place, m_value⟩
  rw [hf] at hc
  unfold Mg.val Mg.vals at *
  simp only at hc ⊢
  have HC := Lib.hid hc; clear hc hf
  have d3 : decide (m_time < 0) = false := decide_eq_false (by omega)
  have d4 : decide (1099511627776 < m_time) = false := decide_eq_false (by omega)
  have ix : ∀ w, (Instr.index 130 (.agg fitsV) (.int .i64 2)).run Try.prog w = .ok (.func (Fn.func 132) #[] #[]) w := fun w => idx130 2 _ (by decide) rfl w
  have HF := Lib.hid fits_calls
  generalize fitsV = FV at *
  go_enter Try.func18, Try.ntmps18
  go_wp2_with fail
  have B0 := Kit.blk1 w (.cells #[.int .i64 2, .int .i64 m_time, .int .i64 m_cls, .int .u8 m_high, .int .i64 m_bank, .int .i64 m_place, .int .u8 m_value] 33 (0, 0))
  have hB := Kit.below1 w (.cells #[.int .i64 2, .int .i64 m_time, .int .i64 m_cls, .int .u8 m_high, .int .i64 m_bank, .int .i64 m_place, .int .u8 m_value] 33 (0, 0))
  generalize w.alloc (.cells #[.int .i64 2, .int .i64 m_time, .int .i64 m_cls, .int .u8 m_high, .int .i64 m_bank, .int .i64 m_place, .int .u8 m_value] 33 (0, 0)) = W at *
  have y0 := fun d os => cell_regrown (Kit.cell B0 0 _ rfl : W.cell? ⟨w.heap.size, 0, none⟩ = some (.int .i64 2)) d os
  have y1 := fun d os => cell_regrown (Kit.cell B0 1 _ rfl : W.cell? ⟨w.heap.size, 1, none⟩ = some (.int .i64 m_time)) d os
  have y2 := fun d os => cell_regrown (Kit.cell B0 2 _ rfl : W.cell? ⟨w.heap.size, 2, none⟩ = some (.int .i64 m_cls)) d os
  have y3 := fun d os => cell_regrown (Kit.cell B0 3 _ rfl : W.cell? ⟨w.heap.size, 3, none⟩ = some (.int .u8 m_high)) d os
  have y4 := fun d os => cell_regrown (Kit.cell B0 4 _ rfl : W.cell? ⟨w.heap.size, 4, none⟩ = some (.int .i64 m_bank)) d os
  have y5 := fun d os => cell_regrown (Kit.cell B0 5 _ rfl : W.cell? ⟨w.heap.size, 5, none⟩ = some (.int .i64 m_place)) d os
  have y6 := fun d os => cell_regrown (Kit.cell B0 6 _ rfl : W.cell? ⟨w.heap.size, 6, none⟩ = some (.int .u8 m_value)) d os
  clear B0
  have HB := Lib.hid hB; clear hB
  refine wp_region_quiet_below (by kernel_rfl) (by kernel_rfl) ?_
  repeat (go_big_quiet_step ((first | (go_at_call 83; exact Calls.regrown_of (HF.out _)) | (go_at_call 132; exact Calls.regrown_of (HC.out _)))))
  refine wpQuiet_nil ?_
  intro _ hw'
  obtain ⟨⟨dq, osq⟩, hw''⟩ := hw'
  subst hw''
  have hbb := below_regrown W dq osq
  generalize Sort.grow (redrawn W dq) osq = w1 at *
  clear y0 y1 y2 y3 y4 y5 y6
  have HB1 := Lib.hid (Kit.then_ HB.out hbb); clear hbb
  go_wp2_with fail
  go_ret
  exact ⟨rfl, HB1.out⟩

set_option maxRecDepth 100000 in
theorem check_3_true (m : Mg) (hm : m.kind = 3) (h3 : 0 ≤ m.time) (h4 : m.time ≤ 1099511627776) (hf : fit4 m = true) (w : World) : Calls Try.prog 18 #[m.val] w fun e w' => e = .returned (.int .i64 0) ∧ Below w.heap.size w w' := by
  obtain ⟨m_kind, m_time, m_cls, m_high, m_bank, m_place, m_value⟩ := m
  simp only at hm h3 h4
  subst hm
  have hc := screen_calls ⟨3, m_time, m_cls, m_high, m_bank, m_place, m_value⟩
  rw [hf] at hc
  unfold Mg.val Mg.vals at *
  simp only at hc ⊢
  have HC := Lib.hid hc; clear hc hf
  have d3 : decide (m_time < 0) = false := decide_eq_false (by omega)
  have d4 : decide (1099511627776 < m_time) = false := decide_eq_false (by omega)
  have ix : ∀ w, (Instr.index 130 (.agg fitsV) (.int .i64 3)).run Try.prog w = .ok (.func (Fn.func 133) #[] #[]) w := fun w => idx130 3 _ (by decide) rfl w
  have HF := Lib.hid fits_calls
  generalize fitsV = FV at *
  go_enter Try.func18, Try.ntmps18
  go_wp2_with fail
  have B0 := Kit.blk1 w (.cells #[.int .i64 3, .int .i64 m_time, .int .i64 m_cls, .int .u8 m_high, .int .i64 m_bank, .int .i64 m_place, .int .u8 m_value] 33 (0, 0))
  have hB := Kit.below1 w (.cells #[.int .i64 3, .int .i64 m_time, .int .i64 m_cls, .int .u8 m_high, .int .i64 m_bank, .int .i64 m_place, .int .u8 m_value] 33 (0, 0))
  generalize w.alloc (.cells #[.int .i64 3, .int .i64 m_time, .int .i64 m_cls, .int .u8 m_high, .int .i64 m_bank, .int .i64 m_place, .int .u8 m_value] 33 (0, 0)) = W at *
  have y0 := fun d os => cell_regrown (Kit.cell B0 0 _ rfl : W.cell? ⟨w.heap.size, 0, none⟩ = some (.int .i64 3)) d os
  have y1 := fun d os => cell_regrown (Kit.cell B0 1 _ rfl : W.cell? ⟨w.heap.size, 1, none⟩ = some (.int .i64 m_time)) d os
  have y2 := fun d os => cell_regrown (Kit.cell B0 2 _ rfl : W.cell? ⟨w.heap.size, 2, none⟩ = some (.int .i64 m_cls)) d os
  have y3 := fun d os => cell_regrown (Kit.cell B0 3 _ rfl : W.cell? ⟨w.heap.size, 3, none⟩ = some (.int .u8 m_high)) d os
  have y4 := fun d os => cell_regrown (Kit.cell B0 4 _ rfl : W.cell? ⟨w.heap.size, 4, none⟩ = some (.int .i64 m_bank)) d os
  have y5 := fun d os => cell_regrown (Kit.cell B0 5 _ rfl : W.cell? ⟨w.heap.size, 5, none⟩ = some (.int .i64 m_place)) d os
  have y6 := fun d os => cell_regrown (Kit.cell B0 6 _ rfl : W.cell? ⟨w.heap.size, 6, none⟩ = some (.int .u8 m_value)) d os
  clear B0
  have HB := Lib.hid hB; clear hB
  refine wp_region_quiet_below (by kernel_rfl) (by kernel_rfl) ?_
  repeat (go_big_quiet_step ((first | (go_at_call 83; exact Calls.regrown_of (HF.out _)) | (go_at_call 133; exact Calls.regrown_of (HC.out _)))))
  refine wpQuiet_nil ?_
  intro _ hw'
  obtain ⟨⟨dq, osq⟩, hw''⟩ := hw'
  subst hw''
  have hbb := below_regrown W dq osq
  generalize Sort.grow (redrawn W dq) osq = w1 at *
  clear y0 y1 y2 y3 y4 y5 y6
  have HB1 := Lib.hid (Kit.then_ HB.out hbb); clear hbb
  go_wp2_with fail
  go_ret
  exact ⟨rfl, HB1.out⟩

set_option maxRecDepth 100000 in
theorem check_3_false (m : Mg) (hm : m.kind = 3) (h3 : 0 ≤ m.time) (h4 : m.time ≤ 1099511627776) (hf : fit4 m = false) (w : World) : Calls Try.prog 18 #[m.val] w fun e w' => e = .returned (.int .i64 2) ∧ Below w.heap.size w w' := by
  obtain ⟨m_kind, m_time, m_cls, m_high, m_bank, m_place, m_value⟩ := m
  simp only at hm h3 h4
  subst hm
  have hc := screen_calls ⟨3, m_time, m_cls, m_high, m_bank, m_place, m_value⟩
  rw [hf] at hc
  unfold Mg.val Mg.vals at *
  simp only at hc ⊢
  have HC := Lib.hid hc; clear hc hf
  have d3 : decide (m_time < 0) = false := decide_eq_false (by omega)
  have d4 : decide (1099511627776 < m_time) = false := decide_eq_false (by omega)
  have ix : ∀ w, (Instr.index 130 (.agg fitsV) (.int .i64 3)).run Try.prog w = .ok (.func (Fn.func 133) #[] #[]) w := fun w => idx130 3 _ (by decide) rfl w
  have HF := Lib.hid fits_calls
  generalize fitsV = FV at *
  go_enter Try.func18, Try.ntmps18
  go_wp2_with fail
  have B0 := Kit.blk1 w (.cells #[.int .i64 3, .int .i64 m_time, .int .i64 m_cls, .int .u8 m_high, .int .i64 m_bank, .int .i64 m_place, .int .u8 m_value] 33 (0, 0))
  have hB := Kit.below1 w (.cells #[.int .i64 3, .int .i64 m_time, .int .i64 m_cls, .int .u8 m_high, .int .i64 m_bank, .int .i64 m_place, .int .u8 m_value] 33 (0, 0))
  generalize w.alloc (.cells #[.int .i64 3, .int .i64 m_time, .int .i64 m_cls, .int .u8 m_high, .int .i64 m_bank, .int .i64 m_place, .int .u8 m_value] 33 (0, 0)) = W at *
  have y0 := fun d os => cell_regrown (Kit.cell B0 0 _ rfl : W.cell? ⟨w.heap.size, 0, none⟩ = some (.int .i64 3)) d os
  have y1 := fun d os => cell_regrown (Kit.cell B0 1 _ rfl : W.cell? ⟨w.heap.size, 1, none⟩ = some (.int .i64 m_time)) d os
  have y2 := fun d os => cell_regrown (Kit.cell B0 2 _ rfl : W.cell? ⟨w.heap.size, 2, none⟩ = some (.int .i64 m_cls)) d os
  have y3 := fun d os => cell_regrown (Kit.cell B0 3 _ rfl : W.cell? ⟨w.heap.size, 3, none⟩ = some (.int .u8 m_high)) d os
  have y4 := fun d os => cell_regrown (Kit.cell B0 4 _ rfl : W.cell? ⟨w.heap.size, 4, none⟩ = some (.int .i64 m_bank)) d os
  have y5 := fun d os => cell_regrown (Kit.cell B0 5 _ rfl : W.cell? ⟨w.heap.size, 5, none⟩ = some (.int .i64 m_place)) d os
  have y6 := fun d os => cell_regrown (Kit.cell B0 6 _ rfl : W.cell? ⟨w.heap.size, 6, none⟩ = some (.int .u8 m_value)) d os
  clear B0
  have HB := Lib.hid hB; clear hB
  refine wp_region_quiet_below (by kernel_rfl) (by kernel_rfl) ?_
  repeat (go_big_quiet_step ((first | (go_at_call 83; exact Calls.regrown_of (HF.out _)) | (go_at_call 133; exact Calls.regrown_of (HC.out _)))))
  refine wpQuiet_nil ?_
  intro _ hw'
  obtain ⟨⟨dq, osq⟩, hw''⟩ := hw'
  subst hw''
  have hbb := below_regrown W dq osq
  generalize Sort.grow (redrawn W dq) osq = w1 at *
  clear y0 y1 y2 y3 y4 y5 y6
  have HB1 := Lib.hid (Kit.then_ HB.out hbb); clear hbb
  go_wp2_with fail
  go_ret
  exact ⟨rfl, HB1.out⟩

set_option maxRecDepth 100000 in
theorem check_4_true (m : Mg) (hm : m.kind = 4) (h3 : 0 ≤ m.time) (h4 : m.time ≤ 1099511627776) (hf : fit1 m = true) (w : World) : Calls Try.prog 18 #[m.val] w fun e w' => e = .returned (.int .i64 0) ∧ Below w.heap.size w w' := by
  obtain ⟨m_kind, m_time, m_cls, m_high, m_bank, m_place, m_value⟩ := m
  simp only at hm h3 h4
  subst hm
  have hc := none_calls ⟨4, m_time, m_cls, m_high, m_bank, m_place, m_value⟩
  rw [hf] at hc
  unfold Mg.val Mg.vals at *
  simp only at hc ⊢
  have HC := Lib.hid hc; clear hc hf
  have d3 : decide (m_time < 0) = false := decide_eq_false (by omega)
  have d4 : decide (1099511627776 < m_time) = false := decide_eq_false (by omega)
  have ix : ∀ w, (Instr.index 130 (.agg fitsV) (.int .i64 4)).run Try.prog w = .ok (.func (Fn.func 130) #[] #[]) w := fun w => idx130 4 _ (by decide) rfl w
  have HF := Lib.hid fits_calls
  generalize fitsV = FV at *
  go_enter Try.func18, Try.ntmps18
  go_wp2_with fail
  have B0 := Kit.blk1 w (.cells #[.int .i64 4, .int .i64 m_time, .int .i64 m_cls, .int .u8 m_high, .int .i64 m_bank, .int .i64 m_place, .int .u8 m_value] 33 (0, 0))
  have hB := Kit.below1 w (.cells #[.int .i64 4, .int .i64 m_time, .int .i64 m_cls, .int .u8 m_high, .int .i64 m_bank, .int .i64 m_place, .int .u8 m_value] 33 (0, 0))
  generalize w.alloc (.cells #[.int .i64 4, .int .i64 m_time, .int .i64 m_cls, .int .u8 m_high, .int .i64 m_bank, .int .i64 m_place, .int .u8 m_value] 33 (0, 0)) = W at *
  have y0 := fun d os => cell_regrown (Kit.cell B0 0 _ rfl : W.cell? ⟨w.heap.size, 0, none⟩ = some (.int .i64 4)) d os
  have y1 := fun d os => cell_regrown (Kit.cell B0 1 _ rfl : W.cell? ⟨w.heap.size, 1, none⟩ = some (.int .i64 m_time)) d os
  have y2 := fun d os => cell_regrown (Kit.cell B0 2 _ rfl : W.cell? ⟨w.heap.size, 2, none⟩ = some (.int .i64 m_cls)) d os
  have y3 := fun d os => cell_regrown (Kit.cell B0 3 _ rfl : W.cell? ⟨w.heap.size, 3, none⟩ = some (.int .u8 m_high)) d os
  have y4 := fun d os => cell_regrown (Kit.cell B0 4 _ rfl : W.cell? ⟨w.heap.size, 4, none⟩ = some (.int .i64 m_bank)) d os
  have y5 := fun d os => cell_regrown (Kit.cell B0 5 _ rfl : W.cell? ⟨w.heap.size, 5, none⟩ = some (.int .i64 m_place)) d os
  have y6 := fun d os => cell_regrown (Kit.cell B0 6 _ rfl : W.cell? ⟨w.heap.size, 6, none⟩ = some (.int .u8 m_value)) d os
  clear B0
  have HB := Lib.hid hB; clear hB
  refine wp_region_quiet_below (by kernel_rfl) (by kernel_rfl) ?_
  repeat (go_big_quiet_step ((first | (go_at_call 83; exact Calls.regrown_of (HF.out _)) | (go_at_call 130; exact Calls.regrown_of (HC.out _)))))
  refine wpQuiet_nil ?_
  intro _ hw'
  obtain ⟨⟨dq, osq⟩, hw''⟩ := hw'
  subst hw''
  have hbb := below_regrown W dq osq
  generalize Sort.grow (redrawn W dq) osq = w1 at *
  clear y0 y1 y2 y3 y4 y5 y6
  have HB1 := Lib.hid (Kit.then_ HB.out hbb); clear hbb
  go_wp2_with fail
  go_ret
  exact ⟨rfl, HB1.out⟩

set_option maxRecDepth 100000 in
theorem check_4_false (m : Mg) (hm : m.kind = 4) (h3 : 0 ≤ m.time) (h4 : m.time ≤ 1099511627776) (hf : fit1 m = false) (w : World) : Calls Try.prog 18 #[m.val] w fun e w' => e = .returned (.int .i64 2) ∧ Below w.heap.size w w' := by
  obtain ⟨m_kind, m_time, m_cls, m_high, m_bank, m_place, m_value⟩ := m
  simp only at hm h3 h4
  subst hm
  have hc := none_calls ⟨4, m_time, m_cls, m_high, m_bank, m_place, m_value⟩
  rw [hf] at hc
  unfold Mg.val Mg.vals at *
  simp only at hc ⊢
  have HC := Lib.hid hc; clear hc hf
  have d3 : decide (m_time < 0) = false := decide_eq_false (by omega)
  have d4 : decide (1099511627776 < m_time) = false := decide_eq_false (by omega)
  have ix : ∀ w, (Instr.index 130 (.agg fitsV) (.int .i64 4)).run Try.prog w = .ok (.func (Fn.func 130) #[] #[]) w := fun w => idx130 4 _ (by decide) rfl w
  have HF := Lib.hid fits_calls
  generalize fitsV = FV at *
  go_enter Try.func18, Try.ntmps18
  go_wp2_with fail
  have B0 := Kit.blk1 w (.cells #[.int .i64 4, .int .i64 m_time, .int .i64 m_cls, .int .u8 m_high, .int .i64 m_bank, .int .i64 m_place, .int .u8 m_value] 33 (0, 0))
  have hB := Kit.below1 w (.cells #[.int .i64 4, .int .i64 m_time, .int .i64 m_cls, .int .u8 m_high, .int .i64 m_bank, .int .i64 m_place, .int .u8 m_value] 33 (0, 0))
  generalize w.alloc (.cells #[.int .i64 4, .int .i64 m_time, .int .i64 m_cls, .int .u8 m_high, .int .i64 m_bank, .int .i64 m_place, .int .u8 m_value] 33 (0, 0)) = W at *
  have y0 := fun d os => cell_regrown (Kit.cell B0 0 _ rfl : W.cell? ⟨w.heap.size, 0, none⟩ = some (.int .i64 4)) d os
  have y1 := fun d os => cell_regrown (Kit.cell B0 1 _ rfl : W.cell? ⟨w.heap.size, 1, none⟩ = some (.int .i64 m_time)) d os
  have y2 := fun d os => cell_regrown (Kit.cell B0 2 _ rfl : W.cell? ⟨w.heap.size, 2, none⟩ = some (.int .i64 m_cls)) d os
  have y3 := fun d os => cell_regrown (Kit.cell B0 3 _ rfl : W.cell? ⟨w.heap.size, 3, none⟩ = some (.int .u8 m_high)) d os
  have y4 := fun d os => cell_regrown (Kit.cell B0 4 _ rfl : W.cell? ⟨w.heap.size, 4, none⟩ = some (.int .i64 m_bank)) d os
  have y5 := fun d os => cell_regrown (Kit.cell B0 5 _ rfl : W.cell? ⟨w.heap.size, 5, none⟩ = some (.int .i64 m_place)) d os
  have y6 := fun d os => cell_regrown (Kit.cell B0 6 _ rfl : W.cell? ⟨w.heap.size, 6, none⟩ = some (.int .u8 m_value)) d os
  clear B0
  have HB := Lib.hid hB; clear hB
  refine wp_region_quiet_below (by kernel_rfl) (by kernel_rfl) ?_
  repeat (go_big_quiet_step ((first | (go_at_call 83; exact Calls.regrown_of (HF.out _)) | (go_at_call 130; exact Calls.regrown_of (HC.out _)))))
  refine wpQuiet_nil ?_
  intro _ hw'
  obtain ⟨⟨dq, osq⟩, hw''⟩ := hw'
  subst hw''
  have hbb := below_regrown W dq osq
  generalize Sort.grow (redrawn W dq) osq = w1 at *
  clear y0 y1 y2 y3 y4 y5 y6
  have HB1 := Lib.hid (Kit.then_ HB.out hbb); clear hbb
  go_wp2_with fail
  go_ret
  exact ⟨rfl, HB1.out⟩

set_option maxRecDepth 100000 in
theorem check_5_true (m : Mg) (hm : m.kind = 5) (h3 : 0 ≤ m.time) (h4 : m.time ≤ 1099511627776) (hf : fit1 m = true) (w : World) : Calls Try.prog 18 #[m.val] w fun e w' => e = .returned (.int .i64 0) ∧ Below w.heap.size w w' := by
  obtain ⟨m_kind, m_time, m_cls, m_high, m_bank, m_place, m_value⟩ := m
  simp only at hm h3 h4
  subst hm
  have hc := none_calls ⟨5, m_time, m_cls, m_high, m_bank, m_place, m_value⟩
  rw [hf] at hc
  unfold Mg.val Mg.vals at *
  simp only at hc ⊢
  have HC := Lib.hid hc; clear hc hf
  have d3 : decide (m_time < 0) = false := decide_eq_false (by omega)
  have d4 : decide (1099511627776 < m_time) = false := decide_eq_false (by omega)
  have ix : ∀ w, (Instr.index 130 (.agg fitsV) (.int .i64 5)).run Try.prog w = .ok (.func (Fn.func 130) #[] #[]) w := fun w => idx130 5 _ (by decide) rfl w
  have HF := Lib.hid fits_calls
  generalize fitsV = FV at *
  go_enter Try.func18, Try.ntmps18
  go_wp2_with fail
  have B0 := Kit.blk1 w (.cells #[.int .i64 5, .int .i64 m_time, .int .i64 m_cls, .int .u8 m_high, .int .i64 m_bank, .int .i64 m_place, .int .u8 m_value] 33 (0, 0))
  have hB := Kit.below1 w (.cells #[.int .i64 5, .int .i64 m_time, .int .i64 m_cls, .int .u8 m_high, .int .i64 m_bank, .int .i64 m_place, .int .u8 m_value] 33 (0, 0))
  generalize w.alloc (.cells #[.int .i64 5, .int .i64 m_time, .int .i64 m_cls, .int .u8 m_high, .int .i64 m_bank, .int .i64 m_place, .int .u8 m_value] 33 (0, 0)) = W at *
  have y0 := fun d os => cell_regrown (Kit.cell B0 0 _ rfl : W.cell? ⟨w.heap.size, 0, none⟩ = some (.int .i64 5)) d os
  have y1 := fun d os => cell_regrown (Kit.cell B0 1 _ rfl : W.cell? ⟨w.heap.size, 1, none⟩ = some (.int .i64 m_time)) d os
  have y2 := fun d os => cell_regrown (Kit.cell B0 2 _ rfl : W.cell? ⟨w.heap.size, 2, none⟩ = some (.int .i64 m_cls)) d os
  have y3 := fun d os => cell_regrown (Kit.cell B0 3 _ rfl : W.cell? ⟨w.heap.size, 3, none⟩ = some (.int .u8 m_high)) d os
  have y4 := fun d os => cell_regrown (Kit.cell B0 4 _ rfl : W.cell? ⟨w.heap.size, 4, none⟩ = some (.int .i64 m_bank)) d os
  have y5 := fun d os => cell_regrown (Kit.cell B0 5 _ rfl : W.cell? ⟨w.heap.size, 5, none⟩ = some (.int .i64 m_place)) d os
  have y6 := fun d os => cell_regrown (Kit.cell B0 6 _ rfl : W.cell? ⟨w.heap.size, 6, none⟩ = some (.int .u8 m_value)) d os
  clear B0
  have HB := Lib.hid hB; clear hB
  refine wp_region_quiet_below (by kernel_rfl) (by kernel_rfl) ?_
  repeat (go_big_quiet_step ((first | (go_at_call 83; exact Calls.regrown_of (HF.out _)) | (go_at_call 130; exact Calls.regrown_of (HC.out _)))))
  refine wpQuiet_nil ?_
  intro _ hw'
  obtain ⟨⟨dq, osq⟩, hw''⟩ := hw'
  subst hw''
  have hbb := below_regrown W dq osq
  generalize Sort.grow (redrawn W dq) osq = w1 at *
  clear y0 y1 y2 y3 y4 y5 y6
  have HB1 := Lib.hid (Kit.then_ HB.out hbb); clear hbb
  go_wp2_with fail
  go_ret
  exact ⟨rfl, HB1.out⟩

set_option maxRecDepth 100000 in
theorem check_5_false (m : Mg) (hm : m.kind = 5) (h3 : 0 ≤ m.time) (h4 : m.time ≤ 1099511627776) (hf : fit1 m = false) (w : World) : Calls Try.prog 18 #[m.val] w fun e w' => e = .returned (.int .i64 2) ∧ Below w.heap.size w w' := by
  obtain ⟨m_kind, m_time, m_cls, m_high, m_bank, m_place, m_value⟩ := m
  simp only at hm h3 h4
  subst hm
  have hc := none_calls ⟨5, m_time, m_cls, m_high, m_bank, m_place, m_value⟩
  rw [hf] at hc
  unfold Mg.val Mg.vals at *
  simp only at hc ⊢
  have HC := Lib.hid hc; clear hc hf
  have d3 : decide (m_time < 0) = false := decide_eq_false (by omega)
  have d4 : decide (1099511627776 < m_time) = false := decide_eq_false (by omega)
  have ix : ∀ w, (Instr.index 130 (.agg fitsV) (.int .i64 5)).run Try.prog w = .ok (.func (Fn.func 130) #[] #[]) w := fun w => idx130 5 _ (by decide) rfl w
  have HF := Lib.hid fits_calls
  generalize fitsV = FV at *
  go_enter Try.func18, Try.ntmps18
  go_wp2_with fail
  have B0 := Kit.blk1 w (.cells #[.int .i64 5, .int .i64 m_time, .int .i64 m_cls, .int .u8 m_high, .int .i64 m_bank, .int .i64 m_place, .int .u8 m_value] 33 (0, 0))
  have hB := Kit.below1 w (.cells #[.int .i64 5, .int .i64 m_time, .int .i64 m_cls, .int .u8 m_high, .int .i64 m_bank, .int .i64 m_place, .int .u8 m_value] 33 (0, 0))
  generalize w.alloc (.cells #[.int .i64 5, .int .i64 m_time, .int .i64 m_cls, .int .u8 m_high, .int .i64 m_bank, .int .i64 m_place, .int .u8 m_value] 33 (0, 0)) = W at *
  have y0 := fun d os => cell_regrown (Kit.cell B0 0 _ rfl : W.cell? ⟨w.heap.size, 0, none⟩ = some (.int .i64 5)) d os
  have y1 := fun d os => cell_regrown (Kit.cell B0 1 _ rfl : W.cell? ⟨w.heap.size, 1, none⟩ = some (.int .i64 m_time)) d os
  have y2 := fun d os => cell_regrown (Kit.cell B0 2 _ rfl : W.cell? ⟨w.heap.size, 2, none⟩ = some (.int .i64 m_cls)) d os
  have y3 := fun d os => cell_regrown (Kit.cell B0 3 _ rfl : W.cell? ⟨w.heap.size, 3, none⟩ = some (.int .u8 m_high)) d os
  have y4 := fun d os => cell_regrown (Kit.cell B0 4 _ rfl : W.cell? ⟨w.heap.size, 4, none⟩ = some (.int .i64 m_bank)) d os
  have y5 := fun d os => cell_regrown (Kit.cell B0 5 _ rfl : W.cell? ⟨w.heap.size, 5, none⟩ = some (.int .i64 m_place)) d os
  have y6 := fun d os => cell_regrown (Kit.cell B0 6 _ rfl : W.cell? ⟨w.heap.size, 6, none⟩ = some (.int .u8 m_value)) d os
  clear B0
  have HB := Lib.hid hB; clear hB
  refine wp_region_quiet_below (by kernel_rfl) (by kernel_rfl) ?_
  repeat (go_big_quiet_step ((first | (go_at_call 83; exact Calls.regrown_of (HF.out _)) | (go_at_call 130; exact Calls.regrown_of (HC.out _)))))
  refine wpQuiet_nil ?_
  intro _ hw'
  obtain ⟨⟨dq, osq⟩, hw''⟩ := hw'
  subst hw''
  have hbb := below_regrown W dq osq
  generalize Sort.grow (redrawn W dq) osq = w1 at *
  clear y0 y1 y2 y3 y4 y5 y6
  have HB1 := Lib.hid (Kit.then_ HB.out hbb); clear hbb
  go_wp2_with fail
  go_ret
  exact ⟨rfl, HB1.out⟩

set_option maxRecDepth 100000 in
theorem check_6_true (m : Mg) (hm : m.kind = 6) (h3 : 0 ≤ m.time) (h4 : m.time ≤ 1099511627776) (hf : fit6 m = true) (w : World) : Calls Try.prog 18 #[m.val] w fun e w' => e = .returned (.int .i64 0) ∧ Below w.heap.size w w' := by
  obtain ⟨m_kind, m_time, m_cls, m_high, m_bank, m_place, m_value⟩ := m
  simp only at hm h3 h4
  subst hm
  have hc := reply_calls ⟨6, m_time, m_cls, m_high, m_bank, m_place, m_value⟩
  rw [hf] at hc
  unfold Mg.val Mg.vals at *
  simp only at hc ⊢
  have HC := Lib.hid hc; clear hc hf
  have d3 : decide (m_time < 0) = false := decide_eq_false (by omega)
  have d4 : decide (1099511627776 < m_time) = false := decide_eq_false (by omega)
  have ix : ∀ w, (Instr.index 130 (.agg fitsV) (.int .i64 6)).run Try.prog w = .ok (.func (Fn.func 134) #[] #[]) w := fun w => idx130 6 _ (by decide) rfl w
  have HF := Lib.hid fits_calls
  generalize fitsV = FV at *
  go_enter Try.func18, Try.ntmps18
  go_wp2_with fail
  have B0 := Kit.blk1 w (.cells #[.int .i64 6, .int .i64 m_time, .int .i64 m_cls, .int .u8 m_high, .int .i64 m_bank, .int .i64 m_place, .int .u8 m_value] 33 (0, 0))
  have hB := Kit.below1 w (.cells #[.int .i64 6, .int .i64 m_time, .int .i64 m_cls, .int .u8 m_high, .int .i64 m_bank, .int .i64 m_place, .int .u8 m_value] 33 (0, 0))
  generalize w.alloc (.cells #[.int .i64 6, .int .i64 m_time, .int .i64 m_cls, .int .u8 m_high, .int .i64 m_bank, .int .i64 m_place, .int .u8 m_value] 33 (0, 0)) = W at *
  have y0 := fun d os => cell_regrown (Kit.cell B0 0 _ rfl : W.cell? ⟨w.heap.size, 0, none⟩ = some (.int .i64 6)) d os
  have y1 := fun d os => cell_regrown (Kit.cell B0 1 _ rfl : W.cell? ⟨w.heap.size, 1, none⟩ = some (.int .i64 m_time)) d os
  have y2 := fun d os => cell_regrown (Kit.cell B0 2 _ rfl : W.cell? ⟨w.heap.size, 2, none⟩ = some (.int .i64 m_cls)) d os
  have y3 := fun d os => cell_regrown (Kit.cell B0 3 _ rfl : W.cell? ⟨w.heap.size, 3, none⟩ = some (.int .u8 m_high)) d os
  have y4 := fun d os => cell_regrown (Kit.cell B0 4 _ rfl : W.cell? ⟨w.heap.size, 4, none⟩ = some (.int .i64 m_bank)) d os
  have y5 := fun d os => cell_regrown (Kit.cell B0 5 _ rfl : W.cell? ⟨w.heap.size, 5, none⟩ = some (.int .i64 m_place)) d os
  have y6 := fun d os => cell_regrown (Kit.cell B0 6 _ rfl : W.cell? ⟨w.heap.size, 6, none⟩ = some (.int .u8 m_value)) d os
  clear B0
  have HB := Lib.hid hB; clear hB
  refine wp_region_quiet_below (by kernel_rfl) (by kernel_rfl) ?_
  repeat (go_big_quiet_step ((first | (go_at_call 83; exact Calls.regrown_of (HF.out _)) | (go_at_call 134; exact Calls.regrown_of (HC.out _)))))
  refine wpQuiet_nil ?_
  intro _ hw'
  obtain ⟨⟨dq, osq⟩, hw''⟩ := hw'
  subst hw''
  have hbb := below_regrown W dq osq
  generalize Sort.grow (redrawn W dq) osq = w1 at *
  clear y0 y1 y2 y3 y4 y5 y6
  have HB1 := Lib.hid (Kit.then_ HB.out hbb); clear hbb
  go_wp2_with fail
  go_ret
  exact ⟨rfl, HB1.out⟩

set_option maxRecDepth 100000 in
theorem check_6_false (m : Mg) (hm : m.kind = 6) (h3 : 0 ≤ m.time) (h4 : m.time ≤ 1099511627776) (hf : fit6 m = false) (w : World) : Calls Try.prog 18 #[m.val] w fun e w' => e = .returned (.int .i64 2) ∧ Below w.heap.size w w' := by
  obtain ⟨m_kind, m_time, m_cls, m_high, m_bank, m_place, m_value⟩ := m
  simp only at hm h3 h4
  subst hm
  have hc := reply_calls ⟨6, m_time, m_cls, m_high, m_bank, m_place, m_value⟩
  rw [hf] at hc
  unfold Mg.val Mg.vals at *
  simp only at hc ⊢
  have HC := Lib.hid hc; clear hc hf
  have d3 : decide (m_time < 0) = false := decide_eq_false (by omega)
  have d4 : decide (1099511627776 < m_time) = false := decide_eq_false (by omega)
  have ix : ∀ w, (Instr.index 130 (.agg fitsV) (.int .i64 6)).run Try.prog w = .ok (.func (Fn.func 134) #[] #[]) w := fun w => idx130 6 _ (by decide) rfl w
  have HF := Lib.hid fits_calls
  generalize fitsV = FV at *
  go_enter Try.func18, Try.ntmps18
  go_wp2_with fail
  have B0 := Kit.blk1 w (.cells #[.int .i64 6, .int .i64 m_time, .int .i64 m_cls, .int .u8 m_high, .int .i64 m_bank, .int .i64 m_place, .int .u8 m_value] 33 (0, 0))
  have hB := Kit.below1 w (.cells #[.int .i64 6, .int .i64 m_time, .int .i64 m_cls, .int .u8 m_high, .int .i64 m_bank, .int .i64 m_place, .int .u8 m_value] 33 (0, 0))
  generalize w.alloc (.cells #[.int .i64 6, .int .i64 m_time, .int .i64 m_cls, .int .u8 m_high, .int .i64 m_bank, .int .i64 m_place, .int .u8 m_value] 33 (0, 0)) = W at *
  have y0 := fun d os => cell_regrown (Kit.cell B0 0 _ rfl : W.cell? ⟨w.heap.size, 0, none⟩ = some (.int .i64 6)) d os
  have y1 := fun d os => cell_regrown (Kit.cell B0 1 _ rfl : W.cell? ⟨w.heap.size, 1, none⟩ = some (.int .i64 m_time)) d os
  have y2 := fun d os => cell_regrown (Kit.cell B0 2 _ rfl : W.cell? ⟨w.heap.size, 2, none⟩ = some (.int .i64 m_cls)) d os
  have y3 := fun d os => cell_regrown (Kit.cell B0 3 _ rfl : W.cell? ⟨w.heap.size, 3, none⟩ = some (.int .u8 m_high)) d os
  have y4 := fun d os => cell_regrown (Kit.cell B0 4 _ rfl : W.cell? ⟨w.heap.size, 4, none⟩ = some (.int .i64 m_bank)) d os
  have y5 := fun d os => cell_regrown (Kit.cell B0 5 _ rfl : W.cell? ⟨w.heap.size, 5, none⟩ = some (.int .i64 m_place)) d os
  have y6 := fun d os => cell_regrown (Kit.cell B0 6 _ rfl : W.cell? ⟨w.heap.size, 6, none⟩ = some (.int .u8 m_value)) d os
  clear B0
  have HB := Lib.hid hB; clear hB
  refine wp_region_quiet_below (by kernel_rfl) (by kernel_rfl) ?_
  repeat (go_big_quiet_step ((first | (go_at_call 83; exact Calls.regrown_of (HF.out _)) | (go_at_call 134; exact Calls.regrown_of (HC.out _)))))
  refine wpQuiet_nil ?_
  intro _ hw'
  obtain ⟨⟨dq, osq⟩, hw''⟩ := hw'
  subst hw''
  have hbb := below_regrown W dq osq
  generalize Sort.grow (redrawn W dq) osq = w1 at *
  clear y0 y1 y2 y3 y4 y5 y6
  have HB1 := Lib.hid (Kit.then_ HB.out hbb); clear hbb
  go_wp2_with fail
  go_ret
  exact ⟨rfl, HB1.out⟩

theorem check_calls (m : Mg) (w : World) : Calls Try.prog 18 #[m.val] w fun e w' => e = .returned (.int .i64 (chkE m)) ∧ Below w.heap.size w w' := by
  unfold chkE
  by_cases h1 : 1 ≤ m.kind
  case neg => rw [show chk m = false by simp [chk, h1]]; exact check_no0 m (by omega) w
  by_cases h2 : m.kind ≤ 6
  case neg => rw [show chk m = false by simp [chk, h2]]; exact check_no1 m h1 (by omega) w
  by_cases h3 : 0 ≤ m.time
  case neg => rw [show chk m = false by simp [chk, h3]]; exact check_no2 m h1 h2 (by omega) w
  by_cases h4 : m.time ≤ 1099511627776
  case neg => rw [show chk m = false by simp [chk, h4]]; exact check_no3 m h1 h2 h3 (by omega) w
  rw [show chk m = fit m by simp [chk, h1, h2, h3, h4]]
  rcases (by omega : m.kind = 1 ∨ m.kind = 2 ∨ m.kind = 3 ∨ m.kind = 4 ∨ m.kind = 5 ∨ m.kind = 6) with h | h | h | h | h | h
  · rw [show fit m = fit2 m by simp [fit, h]]
    cases hf : fit2 m
    · exact check_1_false m h h3 h4 hf w
    · exact check_1_true m h h3 h4 hf w
  · rw [show fit m = fit3 m by simp [fit, h]]
    cases hf : fit3 m
    · exact check_2_false m h h3 h4 hf w
    · exact check_2_true m h h3 h4 hf w
  · rw [show fit m = fit4 m by simp [fit, h]]
    cases hf : fit4 m
    · exact check_3_false m h h3 h4 hf w
    · exact check_3_true m h h3 h4 hf w
  · rw [show fit m = fit1 m by simp [fit, h]]
    cases hf : fit1 m
    · exact check_4_false m h h3 h4 hf w
    · exact check_4_true m h h3 h4 hf w
  · rw [show fit m = fit1 m by simp [fit, h]]
    cases hf : fit1 m
    · exact check_5_false m h h3 h4 hf w
    · exact check_5_true m h h3 h4 hf w
  · rw [show fit m = fit6 m by simp [fit, h]]
    cases hf : fit6 m
    · exact check_6_false m h h3 h4 hf w
    · exact check_6_true m h h3 h4 hf w
end Go.Proofs.YthbbbmomlehimaaR.Lk
