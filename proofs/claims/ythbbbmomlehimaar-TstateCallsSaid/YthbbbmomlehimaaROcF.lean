import Derived.Test.YthbbbmomlehimaaROcE
set_option linter.unusedVariables false
namespace Go.Proofs.YthbbbmomlehimaaR.Oc
open Go.RowKit

theorem val_step (r : List Int) (K j : Nat) (hj : 1 ≤ j) (hK : j ≤ K) (hr : K ≤ r.length) : val ((r.take K).drop (j - 1)) = r.getD (j - 1) 0 + 256 * val ((r.take K).drop j) := by
  have hlt : j - 1 < (r.take K).length := by rw [List.length_take]; omega
  rw [List.drop_eq_getElem_cons hlt, val, show j - 1 + 1 = j by omega]
  congr 1
  simp [List.getD, List.getElem_take, List.getElem?_eq_getElem (show j - 1 < r.length by omega)]
theorem val_bound (r : List Int) (h : ∀ b ∈ r, 0 ≤ b ∧ b < 256) (K j : Nat) (hj : 1 ≤ j) (hK : K ≤ 8) : 0 ≤ val ((r.take K).drop j) ∧ val ((r.take K).drop j) < 72057594037927936 := by
  have h1 := val_nonneg ((r.take K).drop j) (fun b hb => h b (List.mem_of_mem_take (List.mem_of_mem_drop hb)))
  have h2 : ((r.take K).drop j).length ≤ 7 := by rw [List.length_drop, List.length_take]; omega
  have h3 : (256 : Int) ^ ((r.take K).drop j).length ≤ 256 ^ 7 := by
    have h5 := Int.ofNat_le.2 (Nat.pow_le_pow_right (show 0 < 256 by omega) h2)
    rw [Int.natCast_pow, Int.natCast_pow] at h5
    exact h5
  have h4 : (256 : Int) ^ 7 = 72057594037927936 := by decide
  omega
theorem val_bound8 (r : List Int) (h : ∀ b ∈ r, 0 ≤ b ∧ b < 256) (K : Nat) (hK : K ≤ 8) : 0 ≤ val (r.take K) ∧ val (r.take K) < 18446744073709551616 := by
  have h1 := val_nonneg (r.take K) (fun b hb => h b (List.mem_of_mem_take hb))
  have h2 : (r.take K).length ≤ 8 := by rw [List.length_take]; omega
  have h3 : (256 : Int) ^ (r.take K).length ≤ 256 ^ 8 := by
    have h5 := Int.ofNat_le.2 (Nat.pow_le_pow_right (show 0 < 256 by omega) h2)
    rw [Int.natCast_pow, Int.natCast_pow] at h5
    exact h5
  have h4 : (256 : Int) ^ 8 = 18446744073709551616 := by decide
  omega

set_option maxRecDepth 100000 in
theorem num_short (w : World) (g : Nat) (K : Nat) (r : List Int) (h : RdAt w g ((247 + (K : Int)) :: r) 0) (hK : 1 ≤ K) (hK8 : K ≤ 8) (hr : r.length < K) : Calls Try.prog 141 #[.pointer (some ⟨g, 0, none⟩)] w fun e w' => e = .returned (.int .u64 0) ∧ RdAt w' g ((247 + (K : Int)) :: r) 5 ∧ Kit.But g w w' := by
  have H := Lib.hid h
  obtain ⟨A, n, c, h1, h2, hc, hn, hl⟩ := h
  obtain rfl : n = r.length + 1 := h2.1.symm
  obtain ⟨b, off, rfl, hlt, hcell⟩ := h2.2 (by omega)
  have y0 : w.cell? ⟨b, off + 0, none⟩ = some (.int .u8 (247 + (K : Int))) := hcell 0 (by omega)
  rw [Nat.add_zero] at y0
  have x0 : w.cell? ⟨g, 0, none⟩ = some (.slice (some ⟨b, off, none⟩) (r.length + 1) c) := Kit.cell h1 0 _ rfl
  clear hcell hl h1 h2
  have d1 : decide ((247 : Int) + K ≤ 247) = false := decide_eq_false (by omega)
  have d2 : decide (r.length + 1 < 1 + K) = true := decide_eq_true (by omega)
  go_enter Try.func141, Try.ntmps141
  go_wp2_with fail
  refine (dead_no w g _ H.out).mono ?_; rintro e w1 ⟨rfl, rfl⟩
  go_wp2_with fail
  refine (fail_calls w g _ 0 5 H.out).mono ?_; rintro e w1 ⟨rfl, hr, hb⟩
  have HR := Lib.hid hr; have HB := Lib.hid hb; clear hr hb
  go_wp2_with fail
  go_ret
  exact ⟨rfl, HR.out, HB.out⟩

set_option maxRecDepth 100000 in
set_option maxHeartbeats 2000000 in
theorem num_long {R : Ending → World → Prop} (w : World) (g : Nat) (K : Nat) (r : List Int) (h : RdAt w g ((247 + (K : Int)) :: r) 0) (hK : 1 ≤ K) (hK8 : K ≤ 8) (hr : K ≤ r.length)
    (hbad : r.getD (K - 1) 0 = 0 ∨ val (r.take K) ≤ 247 → ∀ w', RdAt w' g ((247 + (K : Int)) :: r) 4 → Kit.But g w w' → R (.returned (.int .u64 0)) w')
    (hgood : ¬ (r.getD (K - 1) 0 = 0 ∨ val (r.take K) ≤ 247) → ∀ w', RdAt w' g (r.drop K) 0 → Kit.But g w w' → R (.returned (.int .u64 (val (r.take K)))) w') :
    Calls Try.prog 141 #[.pointer (some ⟨g, 0, none⟩)] w R := by
  have HBAD := Lib.hid hbad; have HGOOD := Lib.hid hgood; clear hbad hgood
  have H := Lib.hid h
  obtain ⟨A, n, c, h1, h2, hc, hn, hl⟩ := h
  obtain rfl : n = r.length + 1 := h2.1.symm
  obtain ⟨b, off, rfl, hlt, hcell⟩ := h2.2 (by omega)
  have y0 : w.cell? ⟨b, off + 0, none⟩ = some (.int .u8 (247 + (K : Int))) := hcell 0 (by omega)
  rw [Nat.add_zero] at y0
  have x0 : w.cell? ⟨g, 0, none⟩ = some (.slice (some ⟨b, off, none⟩) (r.length + 1) c) := Kit.cell h1 0 _ rfl
  have f0 := Kit.frz h1 0
  have hrl : ∀ y ∈ r, 0 ≤ y ∧ y < 256 := fun y hy => hl y (by simp [hy])
  have hcj : ∀ j, 1 ≤ j → j ≤ K → w.cell? ⟨b, off + j, none⟩ = some (.int .u8 (r.getD (j - 1) 0)) ∧ 0 ≤ r.getD (j - 1) 0 ∧ r.getD (j - 1) 0 < 256 := fun j h1 h2 => by
    have h3 := hcell j (by omega)
    obtain ⟨i, rfl⟩ : ∃ i, j = i + 1 := ⟨j - 1, by omega⟩
    refine ⟨by simpa [List.getD] using h3, ?_⟩
    have hi : i < r.length := by omega
    have : r.getD (i + 1 - 1) 0 = r[i] := by simp [List.getD, List.getElem?_eq_getElem hi]
    rw [this]
    exact hrl _ (List.getElem_mem hi)
  clear hcell hl
  have HC := Lib.hid hcj; have HRL := Lib.hid hrl; have H1 := Lib.hid h1; have H2 := Lib.hid h2; clear hcj hrl h1 h2
  have d1 : decide ((247 : Int) + K ≤ 247) = false := decide_eq_false (by omega)
  have d2 : decide (r.length + 1 < 1 + K) = false := decide_eq_false (by omega)
  go_enter Try.func141, Try.ntmps141
  go_wp2_with fail
  refine (dead_no w g _ H.out).mono ?_; rintro e w1 ⟨rfl, rfl⟩
  go_wp2_with fail
  go_loop [5, 6] (fun x i => ∃ j : Nat, j ≤ K ∧ i = .int .i64 j ∧ x = .int .u64 (val ((r.take K).drop j))) (fun _ i => (intOf i).toNat)
  case atStart => exact ⟨K, Nat.le_refl _, by go_num, by rw [List.drop_of_length_le (by rw [List.length_take]; omega)]; rfl⟩
  case round =>
    obtain ⟨j, hj, rfl, rfl⟩ := hrel
    by_cases hp : 1 ≤ j
    · obtain ⟨cj, c1, c2⟩ := HC.out j hp hj
      have hv := val_bound r HRL.out K j hp hK8
      have hst := val_step r K j hp hj hr
      have HST := Lib.hid hst; clear hst
      generalize val ((r.take K).drop j) = X at *
      obtain ⟨hv1, hv2⟩ := hv
      have ho := or_byte X (r.getD (j - 1) 0) hv1 hv2 c1 c2
      generalize r.getD (j - 1) 0 = B at *
      have dj : decide (1 ≤ (j : Int)) = true := decide_eq_true (by omega)
      have dj2 : decide ((j : Int) < r.length + 1) = true := decide_eq_true (by omega)
      go_wp2_with fail
      exact ⟨⟨j - 1, by omega, by congr 1; omega, by rw [HST.out]; congr 1; omega⟩, by simp [intOf]; omega⟩
    · obtain rfl : j = 0 := by omega
      rw [List.drop_zero]
      obtain ⟨cj, c1, c2⟩ := HC.out K hK (Nat.le_refl _)
      have hv := val_bound8 r HRL.out K hK8
      have dj : decide ((1 : Int) ≤ ((0 : Nat) : Int)) = false := rfl
      have dj2 : decide ((K : Int) < r.length + 1) = true := decide_eq_true (by omega)
      have hres : ∀ (A' : Option Addr) (m' c' : Nat), A' = cutA (some ⟨b, off, none⟩) c (1 + K) → m' = r.length - K → r.length - K ≤ c' → RdAt (w.setCell ⟨g, 0, none⟩ (.slice A' m' c')) g (r.drop K) 0 := fun A' m' c' hA hm hc' => by
        subst hA hm
        refine ⟨_, r.length - K, c', Kit.set_ H1.out 0 _ rfl, ?_, hc', by omega, fun y hy => HRL.out y (List.mem_of_mem_drop hy)⟩
        have h5 := (H2.out.drop (1 + K) (by omega) hc).set_ H1.out 0 (.slice (cutA (some ⟨b, off, none⟩) c (1 + K)) (r.length - K) c')
        rw [show r.length + 1 - (1 + K) = r.length - K by omega, Nat.add_comm 1 K, List.drop_succ_cons] at h5
        rw [Nat.add_comm 1 K]
        exact h5
      have HRES := Lib.hid hres; clear hres
      generalize val (r.take K) = X at *
      obtain ⟨hv1, hv2⟩ := hv
      generalize r.getD (K - 1) 0 = B at *
      by_cases e1 : B = 0
      · subst e1
        go_wp2_with fail
        refine (fail_calls w g _ 0 4 H.out).mono ?_; rintro e w1 ⟨rfl, hr, hb⟩
        have HR := Lib.hid hr; have HB := Lib.hid hb; clear hr hb
        go_wp2_with fail
        exact HBAD.out (.inl (by trivial)) _ HR.out HB.out
      · have e1b : (B == 0) = false := by simpa using e1
        by_cases e2 : X ≤ 247
        · have e2b : decide (X ≤ 247) = true := decide_eq_true e2
          go_wp2_with fail
          refine (fail_calls w g _ 0 4 H.out).mono ?_; rintro e w1 ⟨rfl, hr, hb⟩
          have HR := Lib.hid hr; have HB := Lib.hid hb; clear hr hb
          go_wp2_with fail
          exact HBAD.out (.inr e2) _ HR.out HB.out
        · have e2b : decide (X ≤ 247) = false := decide_eq_false e2
          by_cases hc1 : c = 1 + K
          · subst hc1
            have hrK : r.length = K := by omega
            go_wp2_with fail
            exact HGOOD.out (by omega) _ (HRES.out _ _ 0 (by simp [cutA]) (by omega) (by omega)) ((Kit.But.refl g w).set_ 0 _)
          · go_wp2_with fail
            exact HGOOD.out (by omega) _ (HRES.out _ _ _ (by simp [cutA, hc1, Addr.add]) (by omega) (by omega)) ((Kit.But.refl g w).set_ 0 _)

/-- THE CONTRACT of the next number: what 'rd' tells. -/
theorem num_calls (w : World) (g : Nat) (l : List Int) (h : RdAt w g l 0) :
    Calls Try.prog 141 #[.pointer (some ⟨g, 0, none⟩)] w fun e w' => e = .returned (.int .u64 (rd l).1) ∧ RdAt w' g (rd l).2.1 (rd l).2.2 ∧ Kit.But g w w' := by
  match l, h with
  | [], h => exact num_empty w g h
  | x :: r, h =>
    have hx : 0 ≤ x ∧ x < 256 := by obtain ⟨_, _, _, _, _, _, _, hl⟩ := h; exact hl x (by simp)
    by_cases h1 : x ≤ 247
    · have e : rd (x :: r) = (x, r, 0) := by simp [rd, h1]
      rw [e]
      exact num_small w g x r h h1
    · obtain ⟨K, rfl⟩ : ∃ K : Nat, x = 247 + (K : Int) := ⟨(x - 247).toNat, by omega⟩
      have k1 : (247 + (K : Int) - 247).toNat = K := by omega
      have k2 : (247 + (K : Int) - 248).toNat = K - 1 := by omega
      by_cases h2 : r.length < K
      · have e : rd ((247 + (K : Int)) :: r) = (0, (247 + (K : Int)) :: r, 5) := by
          simp only [rd]; rw [if_neg h1, if_pos (by omega)]
        rw [e]
        exact num_short w g K r h (by omega) (by omega) h2
      · refine num_long w g K r h (by omega) (by omega) (by omega) (fun hb w' hr hB => ?_) (fun hg w' hr hB => ?_)
        · have e : rd ((247 + (K : Int)) :: r) = (0, (247 + (K : Int)) :: r, 4) := by
            simp only [rd]; rw [if_neg h1, if_neg (by omega), k1, k2, if_pos hb]
          rw [e]
          exact ⟨rfl, hr, hB⟩
        · have e : rd ((247 + (K : Int)) :: r) = (val (r.take K), r.drop K, 0) := by
            simp only [rd]; rw [if_neg h1, if_neg (by omega), k1, k2, if_neg hg]
          rw [e]
          exact ⟨rfl, hr, hB⟩
end Go.Proofs.YthbbbmomlehimaaR.Oc
