import Derived.Test.YthbbbmomlehimaaRRfD
import Derived.Test.YthbbbmomlehimaaRTsG
set_option linter.unusedVariables false
namespace Go.Proofs.YthbbbmomlehimaaR.Ts
open Go.RowKit Oc

theorem rd_err (l : List Int) (h : (rd l).2.2 ≠ 0) : (rd l).1 = 0 := by
  cases l with
  | nil => rfl
  | cons c r =>
    simp only [rd] at *
    split at h
    · exact absurd rfl h
    · rename_i h1
      rw [if_neg h1]
      split at h
      · rename_i h2; rw [if_pos h2]
      · rename_i h2
        rw [if_neg h2]
        split at h
        · rename_i h3; rw [if_pos h3]
        · exact absurd rfl h
theorem reads_same (l : List Int) : ∀ k, (st l k = sr l k ∧ ∀ i, i < k → xs l i = yr l i) ∨ ((∃ i, i < k ∧ yr l i = 1000) ∧ (st l k).2 ≠ 0) := by
  intro k
  induction k with
  | zero => exact .inl ⟨rfl, fun i hi => by omega⟩
  | succ k ih =>
    rcases ih with ⟨e, hx⟩ | ⟨⟨i, hi, hy⟩, he⟩
    · have q1 : st l (k + 1) = (ct (st l k).1 (st l k).2 1000).2 := rfl
      have q2 : sr l (k + 1) = (rf (sr l k).1 (sr l k).2).2 := rfl
      have q3 : xs l k = (ct (st l k).1 (st l k).2 1000).1 := rfl
      have q4 : yr l k = if 1000 < (rf (sr l k).1 (sr l k).2).1 then 1000 else (rf (sr l k).1 (sr l k).2).1 := rfl
      rw [e] at q1 q3
      generalize sr l k = S at *
      obtain ⟨m, er⟩ := S
      simp only [ct, rf] at q1 q2 q3 q4
      by_cases he : er = 0
      · have he' : ¬ er ≠ 0 := by simpa using he
        rw [if_neg he'] at q1 q2 q3 q4
        by_cases h2 : (rd m).2.2 ≠ 0
        · rw [if_pos h2] at q1 q3
          rw [rd_err m h2] at q4
          refine .inl ⟨by rw [q1, q2], fun i hi => ?_⟩
          by_cases hik : i < k
          · exact hx i hik
          · obtain rfl : i = k := by omega
            rw [q3, q4]; rfl
        · rw [if_neg h2] at q1 q3
          have h2' : (rd m).2.2 = 0 := by simpa using h2
          by_cases h3 : 1000 < (rd m).1
          · rw [if_pos h3] at q1 q3 q4
            exact .inr ⟨⟨k, by omega, q4⟩, by rw [q1]; simp⟩
          · rw [if_neg h3] at q1 q3 q4
            refine .inl ⟨by rw [q1, q2, ← h2'], fun i hi => ?_⟩
            by_cases hik : i < k
            · exact hx i hik
            · obtain rfl : i = k := by omega
              rw [q3, q4]
      · rw [if_pos he] at q1 q2 q3 q4
        refine .inl ⟨by rw [q1, q2], fun i hi => ?_⟩
        by_cases hik : i < k
        · exact hx i hik
        · obtain rfl : i = k := by omega
          rw [q3, q4]; rfl
    · refine .inr ⟨⟨i, by omega, hy⟩, ?_⟩
      have q1 : st l (k + 1) = (ct (st l k).1 (st l k).2 1000).2 := rfl
      rw [q1]
      simp only [ct, if_pos he]
      exact he
theorem rread_eq (l : List Int) : rreadVal l = readVal l := by
  rcases reads_same l 7 with ⟨e, hx⟩ | ⟨⟨i, hi, hy⟩, he⟩
  · have e2 : Scr.rread l = Scr.read l := by
      unfold Scr.rread Scr.read
      rw [hx 0 (by omega), hx 1 (by omega), hx 2 (by omega), hx 3 (by omega), hx 4 (by omega), hx 5 (by omega), hx 6 (by omega)]
    unfold rreadVal readVal rreadOk readOk
    rw [e2, e]
  · have h1 : readOk l = false := by
      unfold readOk en
      rw [if_pos he]
      have : ((st l 7).2 == 0) = false := by simpa using he
      rw [this]; rfl
    have h2 : (Scr.rread l).ok = false := by
      cases h : (Scr.rread l).ok
      · rfl
      · have f := (Scr.rread l).fits h
        obtain ⟨f1, f2, f3, f4, f5, f6, f7, f8, f9, f10, f11, f12, f13, f14, f15, f16, f17, f18, f19, f20, f21, f22⟩ := f
        simp only [Scr.rread] at *
        have : i = 0 ∨ i = 1 ∨ i = 2 ∨ i = 3 ∨ i = 4 ∨ i = 5 ∨ i = 6 := by omega
        rcases this with rfl | rfl | rfl | rfl | rfl | rfl | rfl <;> omega
    have h3 : rreadOk l = false := by unfold rreadOk; rw [h2, Bool.and_false]
    rw [rreadVal_no h3, readVal_no h1]
end Go.Proofs.YthbbbmomlehimaaR.Ts
