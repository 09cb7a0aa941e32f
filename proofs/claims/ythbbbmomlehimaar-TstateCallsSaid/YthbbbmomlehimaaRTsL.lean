import Derived.Test.YthbbbmomlehimaaRTsE
import Derived.Test.YthbbbmomlehimaaRCoI
set_option linter.unusedVariables false
namespace Go.Proofs.YthbbbmomlehimaaR.Ts
open Go.RowKit

/-! Plain: times and spots. -/
theorem Scr.spot_of (s : Scr) (h : s.ok = true) (p : Spt) (l0 : 0 ≤ p.line) (l1 : p.line < s.lines) (c0 : 0 ≤ p.col) (c1 : p.col < s.columns) : s.spot (s.at_ p) = p := by
  have f := s.fits h
  have n1 := f.n1; have cc := f.c1
  obtain ⟨fr, li, co⟩ := p
  simp only [Scr.at_] at *
  have hle : li * s.columns + s.columns ≤ s.lines * s.columns := by
    have h := Int.mul_le_mul_of_nonneg_right (show li + 1 ≤ s.lines by omega) (show 0 ≤ s.columns by omega)
    rw [Int.add_mul, Int.one_mul] at h
    exact h
  have hx0 : 0 ≤ li * s.columns := Int.mul_nonneg l0 (by omega)
  unfold Scr.spot
  have e1 : (fr * (s.lines * s.columns) + li * s.columns + co) / (s.lines * s.columns) = fr := by
    rw [Int.add_assoc, Int.mul_comm fr, Int.mul_add_ediv_left _ _ (by omega), Int.ediv_eq_zero_of_lt (by omega) (by omega)]; omega
  have e2 : (fr * (s.lines * s.columns) + li * s.columns + co) % (s.lines * s.columns) = li * s.columns + co := by
    rw [Int.add_assoc, Int.mul_comm fr, Int.mul_add_emod_self_left, Int.emod_eq_of_lt (by omega) (by omega)]
  have e3 : (fr * (s.lines * s.columns) + li * s.columns + co) % s.columns = co := by
    have h := Int.emod_emod_of_dvd (fr * (s.lines * s.columns) + li * s.columns + co) (⟨s.lines, Int.mul_comm _ _⟩ : s.columns ∣ s.lines * s.columns)
    rw [← h, e2, Int.mul_comm li, Int.mul_add_emod_self_left, Int.emod_eq_of_lt (by omega) (by omega)]
  rw [e1, e2, e3]
  congr 1
  rw [Int.mul_comm li, Int.mul_add_ediv_left _ _ (by omega), Int.ediv_eq_zero_of_lt (by omega) (by omega)]; omega
theorem Scr.spot_in (s : Scr) (h : s.ok = true) (t : Int) (h0 : 0 ≤ t) : 0 ≤ (s.spot t).frame ∧ (s.spot t).frame ≤ t ∧ 0 ≤ (s.spot t).line ∧ (s.spot t).line < s.lines ∧ 0 ≤ (s.spot t).col ∧ (s.spot t).col < s.columns := by
  have f := s.fits h
  have n1 := f.n1; have cc := f.c1
  simp only [Scr.spot]
  have a := Int.emod_nonneg t (show s.lines * s.columns ≠ 0 by omega)
  have b := Int.emod_lt_of_pos t (show 0 < s.lines * s.columns by omega)
  exact ⟨Int.ediv_nonneg h0 (by omega), Int.ediv_le_self _ h0, Int.ediv_nonneg a (by omega), Int.ediv_lt_of_lt_mul (by omega) b, Int.emod_nonneg _ (by omega), Int.emod_lt_of_pos _ (by omega)⟩
theorem Scr.at_spot (s : Scr) (h : s.ok = true) (t : Int) : s.at_ (s.spot t) = t := by
  have e0 : (s.spot t).col = t % (s.lines * s.columns) % s.columns := s.spot_col h t
  unfold Scr.at_
  rw [e0]
  simp only [Scr.spot]
  have a := Int.mul_ediv_add_emod t (s.lines * s.columns)
  have b := Int.mul_ediv_add_emod (t % (s.lines * s.columns)) s.columns
  rw [Int.mul_comm (t / _), Int.mul_comm (t % (s.lines * s.columns) / s.columns)]
  omega
theorem Scr.time_spot (s : Scr) (h : s.ok = true) (t : Int) (h0 : 0 ≤ t) (h1 : t ≤ 1099511627776) : s.timeB (s.spot t) = true := by
  have f := s.fits h
  have n1 := f.n1
  obtain ⟨b0, b1, b2, b3, b4, b5⟩ := s.spot_in h t h0
  have b6 : (s.spot t).frame ≤ 1099511627776 / (s.lines * s.columns) := Int.ediv_le_ediv (by omega) h1
  have b7 := s.at_spot h t
  simp only [Scr.timeB, Bool.and_eq_true, decide_eq_true_eq]
  exact ⟨⟨⟨⟨⟨⟨⟨⟨h, b0⟩, by omega⟩, b2⟩, b3⟩, b4⟩, b5⟩, b6⟩, by omega⟩
theorem Scr.next1 (s : Scr) (h : s.ok = true) (t : Int) (h0 : 0 ≤ t) (hc : (s.spot t).col + 1 ≠ s.columns) : s.spot (t + 1) = ⟨(s.spot t).frame, (s.spot t).line, (s.spot t).col + 1⟩ := by
  obtain ⟨b0, b1, b2, b3, b4, b5⟩ := s.spot_in h t h0
  have e := s.spot_of h ⟨(s.spot t).frame, (s.spot t).line, (s.spot t).col + 1⟩ b2 b3 (show 0 ≤ (s.spot t).col + 1 by omega) (show (s.spot t).col + 1 < s.columns by omega)
  have e2 : s.at_ ⟨(s.spot t).frame, (s.spot t).line, (s.spot t).col + 1⟩ = t + 1 := by
    have b7 := s.at_spot h t
    unfold Scr.at_ at *
    simp only at *
    omega
  rwa [e2] at e
theorem Scr.next2 (s : Scr) (h : s.ok = true) (t : Int) (h0 : 0 ≤ t) (hc : (s.spot t).col + 1 = s.columns) (hl : (s.spot t).line + 1 ≠ s.lines) : s.spot (t + 1) = ⟨(s.spot t).frame, (s.spot t).line + 1, 0⟩ := by
  obtain ⟨b0, b1, b2, b3, b4, b5⟩ := s.spot_in h t h0
  have e := s.spot_of h ⟨(s.spot t).frame, (s.spot t).line + 1, 0⟩ (show 0 ≤ (s.spot t).line + 1 by omega) (show (s.spot t).line + 1 < s.lines by omega) (Int.le_refl _) (show (0 : Int) < s.columns by omega)
  have e2 : s.at_ ⟨(s.spot t).frame, (s.spot t).line + 1, 0⟩ = t + 1 := by
    have b7 := s.at_spot h t
    unfold Scr.at_ at *
    simp only at *
    rw [Int.add_mul, Int.one_mul]
    omega
  rwa [e2] at e
theorem Scr.next3 (s : Scr) (h : s.ok = true) (t : Int) (h0 : 0 ≤ t) (hc : (s.spot t).col + 1 = s.columns) (hl : (s.spot t).line + 1 = s.lines) : s.spot (t + 1) = ⟨(s.spot t).frame + 1, 0, 0⟩ := by
  obtain ⟨b0, b1, b2, b3, b4, b5⟩ := s.spot_in h t h0
  have e := s.spot_of h ⟨(s.spot t).frame + 1, 0, 0⟩ (Int.le_refl _) (show (0 : Int) < s.lines by omega) (Int.le_refl _) (show (0 : Int) < s.columns by omega)
  have e2 : s.at_ ⟨(s.spot t).frame + 1, 0, 0⟩ = t + 1 := by
    have b7 := s.at_spot h t
    unfold Scr.at_ at *
    simp only at *
    have hL : s.lines * s.columns = (s.spot t).line * s.columns + s.columns := by rw [← hl, Int.add_mul, Int.one_mul]
    rw [Int.add_mul, Int.one_mul]
    omega
  rwa [e2] at e
theorem Scr.timeB_parts {s : Scr} {p : Spt} (h : s.timeB p = true) : s.spot (s.at_ p) = p ∧ 0 ≤ s.at_ p ∧ s.at_ p ≤ 1099511627776 := by
  simp only [Scr.timeB, Bool.and_eq_true, decide_eq_true_eq] at h
  obtain ⟨⟨⟨⟨⟨⟨⟨⟨a0, a1⟩, a2⟩, a3⟩, a4⟩, a5⟩, a6⟩, a7⟩, a8⟩ := h
  have f := s.fits a0
  have n1 := f.n1; have cc := f.c1
  refine ⟨s.spot_of a0 p a3 a4 a5 a6, ?_, a8⟩
  have x1 := Int.mul_nonneg a1 (show 0 ≤ s.lines * s.columns by omega)
  have x2 := Int.mul_nonneg a3 (show 0 ≤ s.columns by omega)
  unfold Scr.at_
  omega
end Go.Proofs.YthbbbmomlehimaaR.Ts
