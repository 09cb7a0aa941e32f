import Derived.Test.YthbbbmomlehimaaRCoI
import Derived.Test.YthbbbmomlehimaaRCoF
set_option linter.unusedVariables false
namespace Go.Proofs.YthbbbmomlehimaaR.Ts
open Go.RowKit

set_option maxRecDepth 100000 in
set_option maxHeartbeats 2000000 in
theorem most_calls (s : Scr) (q : Rq) (h : s.ok = true) (w : World) :
    Calls Try.prog 29 #[s.val, q.val] w fun e w' => e = .returned (.int .i64 (s.most q)) ∧ Below w.heap.size w w' := by
  have hc := check_calls s
  rw [Scr.code_yes h] at hc
  have HC := Lib.hid hc; clear hc
  have step : ∀ r : Int, r = s.most q → ∀ (b1 b2 b3 b4 b5 : Bool), (s.wide == 0) = b1 → (s.rows == 0) = b2 → (q.kind == 6) = b3 → (q.kind == 4) = b4 → (q.kind == 5) = b5 → r = (if b1 || b2 || b3 then 0 else if b4 || b5 then 24 else 6) := by
    intro r hr b1 b2 b3 b4 b5 e1 e2 e3 e4 e5
    subst hr e1 e2 e3 e4 e5
    simp [Scr.most, h, or_assoc]
  have HR := Lib.hid (step _ rfl _ _ _ _ _ rfl rfl rfl rfl rfl); clear step h
  generalize s.most q = m at *
  cases e1 : (s.wide == 0) <;> cases e2 : (s.rows == 0) <;> cases e3 : (q.kind == 6) <;> cases e4 : (q.kind == 4) <;> cases e5 : (q.kind == 5)
  all_goals
    have hm := HR.out
    rw [e1, e2, e3, e4, e5] at hm
    simp at hm
    subst hm
    clear HR
    simp only [Scr.val, Scr.vals, Rq.val, Rq.vals]
    go_enter Try.func29, Try.ntmps29
    go_wp2_with fail
    refine (HC.out _).mono ?_; rintro e w' ⟨rfl, hb⟩
    have B0 := Kit.kept hb (Kit.blk2a _ _ _)
    have B1 := Kit.kept hb (Kit.blk2b _ _ _)
    have hB := Kit.then_ (Kit.below2 _ _ _) hb
    clear hb HC
    have g0 : w'.cell? ⟨w.heap.size, 5, none⟩ = some (.int .i64 s.wide) := Kit.cell B0 5 _ rfl
    have g1 : w'.cell? ⟨w.heap.size, 3, none⟩ = some (.int .i64 s.rows) := Kit.cell B0 3 _ rfl
    have k0 : w'.cell? ⟨w.heap.size + 1, 0, none⟩ = some (.int .i64 q.kind) := Kit.cell B1 0 _ rfl
    clear B0 B1
    go_wp2_with fail
    go_ret
    exact ⟨rfl, hB⟩

theorem lives16_calls (w : World) : Calls Try.prog 23 #[] w fun e w' => e = .returned (.bool true) ∧ Below w.heap.size w w' := by
  have r1 : classic.req ⟨2, 0, 0, 3⟩ true 14377 = (14383, 14386) := by decide
  have r2 : classic.req ⟨4, 254, 0, 4⟩ false 14376 = (14383, 14386) := by decide
  have w1 : classic.wait 14377 = 6 := by decide
  have w2 : classic.wait 14378 = 5 := by decide
  have w3 : classic.wait 14383 = 0 := by decide
  have w4 : classic.wait 14384 = 0 := by decide
  have w5 : classic.wait 14385 = 6 := by decide
  have c1 := fun W => request_calls classic ⟨2, 0, 0, 3⟩ 14377 classic_ok (by decide) (by decide) (by decide) (by decide) (by decide) true W
  have c2 := fun W => request_calls classic ⟨4, 254, 0, 4⟩ 14376 classic_ok (by decide) (by decide) (by decide) (by decide) (by decide) false W
  have d1 := fun W => wait_calls classic 14377 classic_ok (by decide) (by decide) W
  have d2 := fun W => wait_calls classic 14378 classic_ok (by decide) (by decide) W
  have d3 := fun W => wait_calls classic 14383 classic_ok (by decide) (by decide) W
  have d4 := fun W => wait_calls classic 14384 classic_ok (by decide) (by decide) W
  have d5 := fun W => wait_calls classic 14385 classic_ok (by decide) (by decide) W
  rw [r1] at c1; rw [r2] at c2; rw [w1] at d1; rw [w2] at d2; rw [w3] at d3; rw [w4] at d4; rw [w5] at d5
  have C1 := Lib.hid c1; have C2 := Lib.hid c2; have D1 := Lib.hid d1; have D2 := Lib.hid d2; have D3 := Lib.hid d3; have D4 := Lib.hid d4; have D5 := Lib.hid d5
  clear c1 c2 d1 d2 d3 d4 d5 r1 r2 w1 w2 w3 w4 w5
  go_enter Try.func23, Try.ntmps23
  go_wp2_with fail
  refine (ref02_classic _).mono ?_; rintro e w1 ⟨rfl, hb1⟩
  unfold Scr.val Scr.vals classic at *
  simp only at *
  have hB := hb1
  have hz : w.heap.size ≤ w1.heap.size := hb1.size
  clear hb1
  go_wp2_with fail
  refine (C1.out _).mono ?_; rintro e w2 ⟨rfl, hb⟩
  have A0 := Kit.kept hb (Kit.blk1 _ _)
  have hB2 := hB.trans ((Kit.then_ (Kit.below1 _ _) hb).mono hz)
  have hz2 : w.heap.size ≤ w2.heap.size := hB2.size
  clear hB hz hb
  have hB := hB2; have hz := hz2; clear hB2 hz2
  have x0 : w2.cell? ⟨w1.heap.size, 0, none⟩ = some (.int .i64 311) := Kit.cell A0 0 _ rfl
  have x1 : w2.cell? ⟨w1.heap.size, 1, none⟩ = some (.int .i64 228) := Kit.cell A0 1 _ rfl
  have x2 : w2.cell? ⟨w1.heap.size, 2, none⟩ = some (.int .i64 63) := Kit.cell A0 2 _ rfl
  have x3 : w2.cell? ⟨w1.heap.size, 3, none⟩ = some (.int .i64 192) := Kit.cell A0 3 _ rfl
  have x4 : w2.cell? ⟨w1.heap.size, 4, none⟩ = some (.int .i64 14) := Kit.cell A0 4 _ rfl
  have x5 : w2.cell? ⟨w1.heap.size, 5, none⟩ = some (.int .i64 32) := Kit.cell A0 5 _ rfl
  have x6 : w2.cell? ⟨w1.heap.size, 6, none⟩ = some (.int .i64 36) := Kit.cell A0 6 _ rfl
  have HA := Lib.hid A0; clear A0
  go_wp2_with fail
  refine (C2.out _).mono ?_; rintro e w3 ⟨rfl, hb⟩
  have A0 := Kit.kept hb HA.out
  have hB2 := hB.trans (hb.mono hz)
  clear HA
  have hz2 : w.heap.size ≤ w3.heap.size := hB2.size
  clear hB hz hb x0 x1 x2 x3 x4 x5 x6
  have hB := hB2; have hz := hz2; clear hB2 hz2
  have x0 : w3.cell? ⟨w1.heap.size, 0, none⟩ = some (.int .i64 311) := Kit.cell A0 0 _ rfl
  have x1 : w3.cell? ⟨w1.heap.size, 1, none⟩ = some (.int .i64 228) := Kit.cell A0 1 _ rfl
  have x2 : w3.cell? ⟨w1.heap.size, 2, none⟩ = some (.int .i64 63) := Kit.cell A0 2 _ rfl
  have x3 : w3.cell? ⟨w1.heap.size, 3, none⟩ = some (.int .i64 192) := Kit.cell A0 3 _ rfl
  have x4 : w3.cell? ⟨w1.heap.size, 4, none⟩ = some (.int .i64 14) := Kit.cell A0 4 _ rfl
  have x5 : w3.cell? ⟨w1.heap.size, 5, none⟩ = some (.int .i64 32) := Kit.cell A0 5 _ rfl
  have x6 : w3.cell? ⟨w1.heap.size, 6, none⟩ = some (.int .i64 36) := Kit.cell A0 6 _ rfl
  have HA := Lib.hid A0; clear A0
  go_wp2_with fail
  refine (D1.out _).mono ?_; rintro e w4 ⟨rfl, hb⟩
  have A0 := Kit.kept hb HA.out
  have hB2 := hB.trans (hb.mono hz)
  clear HA
  have hz2 : w.heap.size ≤ w4.heap.size := hB2.size
  clear hB hz hb x0 x1 x2 x3 x4 x5 x6
  have hB := hB2; have hz := hz2; clear hB2 hz2
  have x0 : w4.cell? ⟨w1.heap.size, 0, none⟩ = some (.int .i64 311) := Kit.cell A0 0 _ rfl
  have x1 : w4.cell? ⟨w1.heap.size, 1, none⟩ = some (.int .i64 228) := Kit.cell A0 1 _ rfl
  have x2 : w4.cell? ⟨w1.heap.size, 2, none⟩ = some (.int .i64 63) := Kit.cell A0 2 _ rfl
  have x3 : w4.cell? ⟨w1.heap.size, 3, none⟩ = some (.int .i64 192) := Kit.cell A0 3 _ rfl
  have x4 : w4.cell? ⟨w1.heap.size, 4, none⟩ = some (.int .i64 14) := Kit.cell A0 4 _ rfl
  have x5 : w4.cell? ⟨w1.heap.size, 5, none⟩ = some (.int .i64 32) := Kit.cell A0 5 _ rfl
  have x6 : w4.cell? ⟨w1.heap.size, 6, none⟩ = some (.int .i64 36) := Kit.cell A0 6 _ rfl
  have HA := Lib.hid A0; clear A0
  go_wp2_with fail
  refine (D2.out _).mono ?_; rintro e w5 ⟨rfl, hb⟩
  have A0 := Kit.kept hb HA.out
  have hB2 := hB.trans (hb.mono hz)
  clear HA
  have hz2 : w.heap.size ≤ w5.heap.size := hB2.size
  clear hB hz hb x0 x1 x2 x3 x4 x5 x6
  have hB := hB2; have hz := hz2; clear hB2 hz2
  have x0 : w5.cell? ⟨w1.heap.size, 0, none⟩ = some (.int .i64 311) := Kit.cell A0 0 _ rfl
  have x1 : w5.cell? ⟨w1.heap.size, 1, none⟩ = some (.int .i64 228) := Kit.cell A0 1 _ rfl
  have x2 : w5.cell? ⟨w1.heap.size, 2, none⟩ = some (.int .i64 63) := Kit.cell A0 2 _ rfl
  have x3 : w5.cell? ⟨w1.heap.size, 3, none⟩ = some (.int .i64 192) := Kit.cell A0 3 _ rfl
  have x4 : w5.cell? ⟨w1.heap.size, 4, none⟩ = some (.int .i64 14) := Kit.cell A0 4 _ rfl
  have x5 : w5.cell? ⟨w1.heap.size, 5, none⟩ = some (.int .i64 32) := Kit.cell A0 5 _ rfl
  have x6 : w5.cell? ⟨w1.heap.size, 6, none⟩ = some (.int .i64 36) := Kit.cell A0 6 _ rfl
  have HA := Lib.hid A0; clear A0
  go_wp2_with fail
  refine (D3.out _).mono ?_; rintro e w6 ⟨rfl, hb⟩
  have A0 := Kit.kept hb HA.out
  have hB2 := hB.trans (hb.mono hz)
  clear HA
  have hz2 : w.heap.size ≤ w6.heap.size := hB2.size
  clear hB hz hb x0 x1 x2 x3 x4 x5 x6
  have hB := hB2; have hz := hz2; clear hB2 hz2
  have x0 : w6.cell? ⟨w1.heap.size, 0, none⟩ = some (.int .i64 311) := Kit.cell A0 0 _ rfl
  have x1 : w6.cell? ⟨w1.heap.size, 1, none⟩ = some (.int .i64 228) := Kit.cell A0 1 _ rfl
  have x2 : w6.cell? ⟨w1.heap.size, 2, none⟩ = some (.int .i64 63) := Kit.cell A0 2 _ rfl
  have x3 : w6.cell? ⟨w1.heap.size, 3, none⟩ = some (.int .i64 192) := Kit.cell A0 3 _ rfl
  have x4 : w6.cell? ⟨w1.heap.size, 4, none⟩ = some (.int .i64 14) := Kit.cell A0 4 _ rfl
  have x5 : w6.cell? ⟨w1.heap.size, 5, none⟩ = some (.int .i64 32) := Kit.cell A0 5 _ rfl
  have x6 : w6.cell? ⟨w1.heap.size, 6, none⟩ = some (.int .i64 36) := Kit.cell A0 6 _ rfl
  have HA := Lib.hid A0; clear A0
  go_wp2_with fail
  refine (D4.out _).mono ?_; rintro e w7 ⟨rfl, hb⟩
  have A0 := Kit.kept hb HA.out
  have hB2 := hB.trans (hb.mono hz)
  clear HA
  have hz2 : w.heap.size ≤ w7.heap.size := hB2.size
  clear hB hz hb x0 x1 x2 x3 x4 x5 x6
  have hB := hB2; have hz := hz2; clear hB2 hz2
  have x0 : w7.cell? ⟨w1.heap.size, 0, none⟩ = some (.int .i64 311) := Kit.cell A0 0 _ rfl
  have x1 : w7.cell? ⟨w1.heap.size, 1, none⟩ = some (.int .i64 228) := Kit.cell A0 1 _ rfl
  have x2 : w7.cell? ⟨w1.heap.size, 2, none⟩ = some (.int .i64 63) := Kit.cell A0 2 _ rfl
  have x3 : w7.cell? ⟨w1.heap.size, 3, none⟩ = some (.int .i64 192) := Kit.cell A0 3 _ rfl
  have x4 : w7.cell? ⟨w1.heap.size, 4, none⟩ = some (.int .i64 14) := Kit.cell A0 4 _ rfl
  have x5 : w7.cell? ⟨w1.heap.size, 5, none⟩ = some (.int .i64 32) := Kit.cell A0 5 _ rfl
  have x6 : w7.cell? ⟨w1.heap.size, 6, none⟩ = some (.int .i64 36) := Kit.cell A0 6 _ rfl
  have HA := Lib.hid A0; clear A0
  go_wp2_with fail
  refine (D5.out _).mono ?_; rintro e w8 ⟨rfl, hb⟩
  have A0 := Kit.kept hb HA.out
  have hB2 := hB.trans (hb.mono hz)
  clear HA
  have hz2 : w.heap.size ≤ w8.heap.size := hB2.size
  clear hB hz hb x0 x1 x2 x3 x4 x5 x6
  have hB := hB2; have hz := hz2; clear hB2 hz2
  have x0 : w8.cell? ⟨w1.heap.size, 0, none⟩ = some (.int .i64 311) := Kit.cell A0 0 _ rfl
  have x1 : w8.cell? ⟨w1.heap.size, 1, none⟩ = some (.int .i64 228) := Kit.cell A0 1 _ rfl
  have x2 : w8.cell? ⟨w1.heap.size, 2, none⟩ = some (.int .i64 63) := Kit.cell A0 2 _ rfl
  have x3 : w8.cell? ⟨w1.heap.size, 3, none⟩ = some (.int .i64 192) := Kit.cell A0 3 _ rfl
  have x4 : w8.cell? ⟨w1.heap.size, 4, none⟩ = some (.int .i64 14) := Kit.cell A0 4 _ rfl
  have x5 : w8.cell? ⟨w1.heap.size, 5, none⟩ = some (.int .i64 32) := Kit.cell A0 5 _ rfl
  have x6 : w8.cell? ⟨w1.heap.size, 6, none⟩ = some (.int .i64 36) := Kit.cell A0 6 _ rfl
  have HA := Lib.hid A0; clear A0
  go_wp2_with fail
  go_ret
  exact ⟨rfl, hB⟩
end Go.Proofs.YthbbbmomlehimaaR.Ts
