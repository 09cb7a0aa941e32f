import Derived.Test.YthbbbmomlehimaaRTsI
set_option linter.unusedVariables false
namespace Go.Proofs.YthbbbmomlehimaaR.Ts
open Go.RowKit Oc

set_option maxRecDepth 100000 in
theorem pulse_no (s : Scr) (t : Int) (w : World) (h : s.ok = false) :
    Calls Try.prog 52 #[s.val, .int .i64 t] w fun e w' => e = .returned (.bool false) ∧ Below w.heap.size w w' := by
  have hl := length_calls s
  rw [Scr.len_no h] at hl
  clear h
  have HMAY := Lib.hid hl
  have dn : decide ((0 : Int) < 0) = false := rfl
  unfold Scr.val Scr.vals at *
  have HL := Lib.hid hl; clear hl
  go_enter Try.func52, Try.ntmps52
  go_wp2_with fail
  refine (HL.out _).mono ?_; rintro e W ⟨rfl, hb⟩
  have B0 := Kit.kept hb (Kit.blk1 _ _)
  have hB := Kit.then_ (Kit.below1 _ _) hb
  have hz := hb.size; simp at hz
  clear hb
  have y6 := fun d os => cell_regrown (Kit.cell B0 6 _ rfl : W.cell? ⟨w.heap.size, 6, none⟩ = some (.int .i64 s.pulse)) d os
  clear B0
  have HB := Lib.hid hB; clear hB
  go_wp2_with fail
  refine wp_region_quiet_below (by kernel_rfl) (by kernel_rfl) ?_
  repeat (go_big_quiet_step ((exact Calls.regrown_of (HMAY.out _))))
  refine wpQuiet_nil ?_
  intro _ hw'
  obtain ⟨⟨dq, osq⟩, hw''⟩ := hw'
  subst hw''
  have hbb := below_regrown W dq osq
  generalize Sort.grow (redrawn W dq) osq = w1 at *
  clear y6
  have hB1 := Kit.then_ HB.out hbb
  have HB1 := Lib.hid hB1; clear hB1 hbb
  go_wp2_with fail
  go_ret
  exact ⟨rfl, HB1.out⟩

set_option maxRecDepth 100000 in
theorem pulse_out (s : Scr) (t : Int) (w : World) (h : s.ok = true) (ht : t < 0 ∨ 1099511627776 < t) :
    Calls Try.prog 52 #[s.val, .int .i64 t] w fun e w' => e = .returned (.bool false) ∧ Below w.heap.size w w' := by
  have hl := length_calls s
  rw [Scr.len_yes h] at hl
  obtain ⟨_, _, c1, c2, _, _, _, _, _, _, _, _, _, _, _, _, _, _, _, _, n1, n2⟩ := s.fits h
  clear h
  generalize s.lines * s.columns = N at *
  have dn : decide (0 < N) = true := decide_eq_true (by omega)
  have hmay : ∀ w, Calls Try.prog 110 #[.int .i64 t] w fun e w' => e = .returned (.bool false) ∧ Below w.heap.size w w' := fun w => by
    have h := may_calls t w
    rcases ht with ht | ht
    · rwa [decide_eq_false (show ¬ 0 ≤ t by omega), Bool.false_and] at h
    · rwa [decide_eq_false (show ¬ t ≤ 1099511627776 by omega), Bool.and_false] at h
  clear ht
  have HMAY := Lib.hid hmay; clear hmay
  unfold Scr.val Scr.vals at *
  have HL := Lib.hid hl; clear hl
  go_enter Try.func52, Try.ntmps52
  go_wp2_with fail
  refine (HL.out _).mono ?_; rintro e W ⟨rfl, hb⟩
  have B0 := Kit.kept hb (Kit.blk1 _ _)
  have hB := Kit.then_ (Kit.below1 _ _) hb
  have hz := hb.size; simp at hz
  clear hb
  have y6 := fun d os => cell_regrown (Kit.cell B0 6 _ rfl : W.cell? ⟨w.heap.size, 6, none⟩ = some (.int .i64 s.pulse)) d os
  clear B0
  have HB := Lib.hid hB; clear hB
  go_wp2_with fail
  refine wp_region_quiet_below (by kernel_rfl) (by kernel_rfl) ?_
  repeat (go_big_quiet_step ((exact Calls.regrown_of (HMAY.out _))))
  refine wpQuiet_nil ?_
  intro _ hw'
  obtain ⟨⟨dq, osq⟩, hw''⟩ := hw'
  subst hw''
  have hbb := below_regrown W dq osq
  generalize Sort.grow (redrawn W dq) osq = w1 at *
  clear y6
  have hB1 := Kit.then_ HB.out hbb
  have HB1 := Lib.hid hB1; clear hB1 hbb
  go_wp2_with fail
  go_ret
  exact ⟨rfl, HB1.out⟩

theorem pulse_calls (s : Scr) (t : Int) (w : World) :
    Calls Try.prog 52 #[s.val, .int .i64 t] w fun e w' => e = .returned (.bool (s.pulseB t)) ∧ Below w.heap.size w w' := by
  cases h : s.ok
  · rw [show s.pulseB t = false by simp [Scr.pulseB, h]]; exact pulse_no s t w h
  by_cases h1 : 0 ≤ t
  case neg => rw [show s.pulseB t = false by simp [Scr.pulseB, h1]]; exact pulse_out s t w h (.inl (by omega))
  by_cases h2 : t ≤ 1099511627776
  case neg => rw [show s.pulseB t = false by simp [Scr.pulseB, h2]]; exact pulse_out s t w h (.inr (by omega))
  rw [show s.pulseB t = decide (t % (s.lines * s.columns) < s.pulse) by simp [Scr.pulseB, h, h1, h2]]
  exact pulse_in s t h h1 h2 w

set_option maxRecDepth 100000 in
theorem pulses_no00 (s : Scr) (f t : Int) (w : World) (h : s.ok = false) (hf : f ≤ 0) (ht : t ≤ 1099511627777) :
    Calls Try.prog 54 #[s.val, .int .i64 f, .int .i64 t] w fun e w' => e = .returned (.int .i64 0) ∧ Below w.heap.size w w' := by
  have hl := length_calls s
  rw [Scr.len_no h] at hl
  clear h
  have HL := Lib.hid hl; clear hl
  unfold Scr.val Scr.vals at *
  go_enter Try.func54, Try.ntmps54
  go_wp2_with fail
  refine (HL.out _).mono ?_; rintro e W ⟨rfl, hb⟩
  have hB := Kit.then_ (Kit.below1 _ _) hb
  have hz := hb.size; simp at hz
  clear hb
  have HB := Lib.hid hB; clear hB
  go_wp2_with fail
  go_ret
  exact ⟨rfl, HB.out.alloc (by omega) _⟩

set_option maxRecDepth 100000 in
theorem pulses_no01 (s : Scr) (f t : Int) (w : World) (h : s.ok = false) (hf : f ≤ 0) (ht : 1099511627777 < t) :
    Calls Try.prog 54 #[s.val, .int .i64 f, .int .i64 t] w fun e w' => e = .returned (.int .i64 0) ∧ Below w.heap.size w w' := by
  have hl := length_calls s
  rw [Scr.len_no h] at hl
  clear h
  have HL := Lib.hid hl; clear hl
  unfold Scr.val Scr.vals at *
  go_enter Try.func54, Try.ntmps54
  go_wp2_with fail
  refine (HL.out _).mono ?_; rintro e W ⟨rfl, hb⟩
  have hB := Kit.then_ (Kit.below1 _ _) hb
  have hz := hb.size; simp at hz
  clear hb
  have HB := Lib.hid hB; clear hB
  go_wp2_with fail
  go_ret
  exact ⟨rfl, HB.out.alloc (by omega) _⟩

set_option maxRecDepth 100000 in
theorem pulses_no10 (s : Scr) (f t : Int) (w : World) (h : s.ok = false) (hf : 0 < f) (ht : t ≤ 1099511627777) :
    Calls Try.prog 54 #[s.val, .int .i64 f, .int .i64 t] w fun e w' => e = .returned (.int .i64 0) ∧ Below w.heap.size w w' := by
  have hl := length_calls s
  rw [Scr.len_no h] at hl
  clear h
  have HL := Lib.hid hl; clear hl
  unfold Scr.val Scr.vals at *
  go_enter Try.func54, Try.ntmps54
  go_wp2_with fail
  refine (HL.out _).mono ?_; rintro e W ⟨rfl, hb⟩
  have hB := Kit.then_ (Kit.below1 _ _) hb
  have hz := hb.size; simp at hz
  clear hb
  have HB := Lib.hid hB; clear hB
  go_wp2_with fail
  go_ret
  exact ⟨rfl, HB.out.alloc (by omega) _⟩

set_option maxRecDepth 100000 in
theorem pulses_no11 (s : Scr) (f t : Int) (w : World) (h : s.ok = false) (hf : 0 < f) (ht : 1099511627777 < t) :
    Calls Try.prog 54 #[s.val, .int .i64 f, .int .i64 t] w fun e w' => e = .returned (.int .i64 0) ∧ Below w.heap.size w w' := by
  have hl := length_calls s
  rw [Scr.len_no h] at hl
  clear h
  have HL := Lib.hid hl; clear hl
  unfold Scr.val Scr.vals at *
  go_enter Try.func54, Try.ntmps54
  go_wp2_with fail
  refine (HL.out _).mono ?_; rintro e W ⟨rfl, hb⟩
  have hB := Kit.then_ (Kit.below1 _ _) hb
  have hz := hb.size; simp at hz
  clear hb
  have HB := Lib.hid hB; clear hB
  go_wp2_with fail
  go_ret
  exact ⟨rfl, HB.out.alloc (by omega) _⟩

def Scr.belowV (s : Scr) (t : Int) : Int := if t ≤ 0 then 0 else uptoV (s.lines * s.columns) s.pulse (if t ≤ 1099511627777 then t else 1099511627777)
def Scr.pulsV (s : Scr) (f t : Int) : Int := if s.ok = false ∨ t ≤ f then 0 else s.belowV t - s.belowV f
theorem upto_zero (n P : Int) (n0 : 8 ≤ n) (p0 : 1 ≤ P) : uptoV n P 0 = 0 := by
  unfold uptoV; rw [Int.zero_ediv, Int.zero_emod, if_neg (by omega)]; omega
theorem pulses_calls (s : Scr) (f t : Int) (w : World) :
    Calls Try.prog 54 #[s.val, .int .i64 f, .int .i64 t] w fun e w' => e = .returned (.int .i64 (s.pulsV f t)) ∧ Below w.heap.size w w' := by
  cases h : s.ok
  · rw [show s.pulsV f t = 0 by simp [Scr.pulsV, h]]
    rcases Int.lt_or_le 0 f with hf | hf <;> rcases Int.lt_or_le 1099511627777 t with ht | ht
    · exact pulses_no11 s f t w h hf ht
    · exact pulses_no10 s f t w h hf ht
    · exact pulses_no01 s f t w h hf ht
    · exact pulses_no00 s f t w h hf ht
  obtain ⟨_, _, c1, c2, _, _, _, _, _, _, _, _, _, p1, p2, _, _, _, _, _, n1, n2⟩ := s.fits h
  have e0 := upto_zero _ _ n1 p1
  rcases Int.lt_or_le 0 f with hf | hf <;> rcases Int.lt_or_le 1099511627777 t with ht | ht
  · rcases Int.lt_or_le f 1099511627777 with hc | hc
    · have e : s.pulsV f t = uptoV (s.lines * s.columns) s.pulse 1099511627777 - uptoV (s.lines * s.columns) s.pulse f := by
        unfold Scr.pulsV Scr.belowV; rw [if_neg (by simp [h]; omega), if_neg (by omega), if_neg (by omega), if_neg (by omega), if_pos (by omega)]
      rw [e]; exact pulses111 s f t w h hf ht hc
    · have e : s.pulsV f t = 0 := by
        unfold Scr.pulsV Scr.belowV
        by_cases h1 : t ≤ f
        · rw [if_pos (.inr h1)]
        · rw [if_neg (by simp [h]; omega), if_neg (by omega), if_neg (by omega), if_neg (by omega)]
          by_cases h2 : f ≤ 1099511627777
          · obtain rfl : f = 1099511627777 := by omega
            rw [if_pos (by omega)]; omega
          · rw [if_neg h2]; omega
      rw [e]; exact pulses110 s f t w h hf ht hc
  · rcases Int.lt_or_le f t with hc | hc
    · have e : s.pulsV f t = uptoV (s.lines * s.columns) s.pulse t - uptoV (s.lines * s.columns) s.pulse f := by
        unfold Scr.pulsV Scr.belowV; rw [if_neg (by simp [h]; omega), if_neg (by omega), if_pos (by omega), if_neg (by omega), if_pos (by omega)]
      rw [e]; exact pulses101 s f t w h hf ht hc
    · have e : s.pulsV f t = 0 := by unfold Scr.pulsV; rw [if_pos (.inr hc)]
      rw [e]; exact pulses100 s f t w h hf ht hc
  · have e : s.pulsV f t = uptoV (s.lines * s.columns) s.pulse 1099511627777 - uptoV (s.lines * s.columns) s.pulse 0 := by
      unfold Scr.pulsV Scr.belowV; rw [if_neg (by simp [h]; omega), if_neg (by omega), if_neg (by omega), if_pos (by omega), e0]
    rw [e]; exact pulses011 s f t w h hf ht (by omega)
  · rcases Int.lt_or_le 0 t with hc | hc
    · have e : s.pulsV f t = uptoV (s.lines * s.columns) s.pulse t - uptoV (s.lines * s.columns) s.pulse 0 := by
        unfold Scr.pulsV Scr.belowV; rw [if_neg (by simp [h]; omega), if_neg (by omega), if_pos (by omega), if_pos (by omega), e0]
      rw [e]; exact pulses001 s f t w h hf ht hc
    · have e : s.pulsV f t = 0 := by
        unfold Scr.pulsV Scr.belowV
        by_cases h1 : t ≤ f
        · rw [if_pos (.inr h1)]
        · rw [if_neg (by simp [h]; omega), if_pos (by omega), if_pos (by omega)]; omega
      rw [e]; exact pulses000 s f t w h hf ht hc
end Go.Proofs.YthbbbmomlehimaaR.Ts
