import Derived.Test.YthbbbmomlehimaaRRdD
set_option linter.unusedVariables false
namespace Go.Proofs.YthbbbmomlehimaaR.Rd
open Go.RowKit Ts Oc

theorem hue_bright (a : Int) (on : Bool) (h0 : 0 ≤ a) (h1 : a < 256) : decide (8 ≤ hue a on) = decide (a / 64 % 2 = 1) := by
  unfold hue
  split <;> split <;> rename_i h <;> simp only [h] <;> simp <;> omega
theorem hue_same (a : Int) (on : Bool) : (hue a on == hue a (!on)) = (a % 8 == a / 8 % 8) := by
  cases on
  · simp only [hue, Bool.not_false, if_true, Bool.false_eq_true, if_false]
    rw [Bool.eq_iff_iff, beq_iff_eq, beq_iff_eq]
    constructor <;> intro h <;> omega
  · simp only [hue, Bool.not_true, if_true, Bool.false_eq_true, if_false]
    rw [Bool.eq_iff_iff, beq_iff_eq, beq_iff_eq]
    constructor <;> intro h <;> omega
theorem col_not (a : Int) (on : Bool) (f : Int) : col a (!on) f = hue a (!(on != turned a f)) := by
  unfold col
  congr 1
  cases on <;> cases turned a f <;> rfl
theorem turned_low (a f : Int) (h : a < 128) : turned a f = false := by
  unfold turned
  rw [decide_eq_false (by omega), Bool.false_and]
theorem turned_16 (a f : Int) (h : 128 ≤ a) : turned a (f + 16) = !turned a f := by
  unfold turned
  rw [decide_eq_true h, Bool.true_and, Bool.true_and]
  have e : (f + 16) / 16 % 2 = (f / 16 + 1) % 2 := by omega
  rw [e]
  by_cases h1 : f / 16 % 2 = 1
  · have h2 : (f / 16 + 1) % 2 = 0 := by omega
    rw [h1, h2]; rfl
  · have h2 : (f / 16 + 1) % 2 = 1 := by omega
    have h3 : f / 16 % 2 = 0 := by omega
    rw [h3, h2]; rfl
theorem turned_32 (a f : Int) (h : 128 ≤ a) : turned a (f + 32) = turned a f := by
  rw [show f + 32 = (f + 16) + 16 by omega, turned_16 a _ h, turned_16 a _ h, Bool.not_not]

set_option maxRecDepth 100000 in
set_option maxHeartbeats 2000000 in
theorem law30_calls (attr a b : Int) (on : Bool) (w : World) (h0 : 0 ≤ attr) (h1 : attr < 256) (ha : a ≤ 9223372036854775807) (hb : b ≤ 9223372036854775807) :
    Calls Try.prog 7 #[.int .u8 attr, .bool on, .int .i64 a, .int .i64 b] w fun e w' => e = .returned (.bool true) ∧ Below w.heap.size w w' := by
  go_enter Try.func7, Try.ntmps7
  go_wp2_with fail
  refine (lives_calls _).mono ?_; rintro e w1 ⟨rfl, hbb⟩
  have Z1 := Lib.hid hbb; clear hbb
  go_upto_region 3 with (fail)
  go_cut [2, 3] (fun v2 v3 wx => ∃ A B : Int, v2 = .int .i64 A ∧ v3 = .int .i64 B ∧ 0 ≤ A ∧ A < 1099511627776 ∧ 0 ≤ B ∧ B < 1099511627776 ∧ w1 = wx)
  case first =>
    rcases Int.lt_or_le 0 a with ga | ga <;> rcases Int.lt_or_le 0 b with gb | gb
    all_goals
      go_wp2_with fail
      go_meet
      case rel => exact ⟨_, _, rfl, rfl, by omega, by omega, by omega, by omega, rfl⟩
  case rest =>
    obtain ⟨A, B, rfl, rfl, a0, a1, b0, b1, rfl⟩ := hcut
    have hc := fun (o : Bool) (f : Int) (W : World) (f0 : 0 ≤ f) (f1 : f ≤ 2199023255552) => colour_calls attr f o W h0 h1 f0 f1
    have HC := Lib.hid hc; clear hc
    have hX := hue_bounds attr (on != turned attr A) h0
    have hY := hue_bounds attr (!(on != turned attr A)) h0
    have hbr := hue_bright attr (on != turned attr A) h0 h1
    have hsm := hue_same attr (on != turned attr A)
    have h64 := and64 attr h0 h1
    have h128 := and128 attr h0 h1
    have e1 : col attr on A = hue attr (on != turned attr A) := rfl
    have e2 := col_not attr on A
    have e3 : attr < 128 → col attr on B = hue attr (on != turned attr A) := fun h => by unfold col; rw [turned_low attr A h, turned_low attr B h]
    have e4 : 128 ≤ attr → col attr on (A + 16) = hue attr (!(on != turned attr A)) := fun h => by
      unfold col; rw [turned_16 attr A h]; congr 1; cases on <;> cases turned attr A <;> rfl
    have e5 : 128 ≤ attr → col attr on (A + 32) = hue attr (on != turned attr A) := fun h => by
      unfold col; rw [turned_32 attr A h]
    generalize hue attr (on != turned attr A) = X at *
    generalize hue attr (!(on != turned attr A)) = Y at *
    have E1 := Lib.hid e1; have E2 := Lib.hid e2; have E3 := Lib.hid e3; have E4 := Lib.hid e4; have E5 := Lib.hid e5
    clear e1 e2 e3 e4 e5
    generalize decide (attr / 64 % 2 = 1) = s at *
    generalize hq : (attr % 8 == attr / 8 % 8) = q at *
    have d1 : decide (15 < X) = false := decide_eq_false (by omega)
    have d2 : (s != s) = false := by cases s <;> rfl
    have d3 : (q != q) = false := by cases q <;> rfl
    go_wp2_with fail
    refine (HC.out on A _ a0 (by omega)).mono ?_; rintro e w2 ⟨rfl, rfl⟩
    rw [E1.out]
    go_wp2_with fail
    refine (HC.out (!on) A _ a0 (by omega)).mono ?_; rintro e w2 ⟨rfl, rfl⟩
    rw [E2.out]
    rcases Int.lt_or_le attr 128 with hl | hl
    · have d4 : (bits .and .u8 attr 128 == 0) = true := by
        rw [decide_eq_false (by omega)] at h128
        rwa [bne_eq_false_iff_eq, ← beq_iff_eq] at h128
      clear h128
      go_wp2_with fail
      refine (HC.out on B _ b0 (by omega)).mono ?_; rintro e w2 ⟨rfl, rfl⟩
      rw [E3.out hl]
      go_wp2_with fail
      go_ret
      exact ⟨by simp, Z1.out⟩
    · have d4 : (bits .and .u8 attr 128 == 0) = false := by
        rw [decide_eq_true hl] at h128
        rw [beq_eq_false_iff_ne]; rwa [bne_iff_ne] at h128
      clear h128
      go_wp2_with fail
      refine (HC.out on (A + 16) _ (by omega) (by omega)).mono ?_; rintro e w2 ⟨rfl, rfl⟩
      rw [E4.out hl]
      go_wp2_with fail
      refine (HC.out on (A + 32) _ (by omega) (by omega)).mono ?_; rintro e w2 ⟨rfl, rfl⟩
      rw [E5.out hl]
      go_wp2_with fail
      go_ret
      exact ⟨by simp, Z1.out⟩
end Go.Proofs.YthbbbmomlehimaaR.Rd
