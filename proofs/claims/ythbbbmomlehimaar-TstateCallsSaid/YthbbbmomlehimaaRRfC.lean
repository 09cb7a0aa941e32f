import Derived.Test.YthbbbmomlehimaaRRfB
set_option linter.unusedVariables false
namespace Go.Proofs.YthbbbmomlehimaaR.Oc
open Go.RowKit

set_option maxRecDepth 100000 in
theorem rnum_short (w : World) (g : Nat) (K : Nat) (r : List Int) (h : RfAt w g ((247 + (K : Int)) :: r) 0) (hK : 1 ≤ K) (hK8 : K ≤ 8) (hr : r.length < K) : Calls Try.prog 115 #[.pointer (some ⟨g, 0, none⟩)] w fun e w' => e = .returned (.int .u64 0) ∧ RfAt w' g ((247 + (K : Int)) :: r) 5 ∧ Kit.But g w w' := by
  have H := Lib.hid h
  obtain ⟨A, n, c, h1, h2, hc, hn, hl⟩ := h
  obtain rfl : n = r.length + 1 := h2.1.symm
  obtain ⟨b, off, rfl, hlt, hcell⟩ := h2.2 (by omega)
  have y0 : w.cell? ⟨b, off + 0, none⟩ = some (.int .u8 (247 + (K : Int))) := hcell 0 (by omega)
  rw [Nat.add_zero] at y0
  have x0 : w.cell? ⟨g, 0, none⟩ = some (.slice (some ⟨b, off, none⟩) (r.length + 1) c) := Kit.cell h1 0 _ rfl
  have x1 : w.cell? ⟨g, 1, none⟩ = some (.int .i64 0) := Kit.cell h1 1 _ rfl
  have f1 := Kit.frz h1 1
  clear hcell hl h1 h2
  have d1 : decide ((247 : Int) + K ≤ 247) = false := decide_eq_false (by omega)
  have d2 : decide (r.length + 1 < 1 + K) = true := decide_eq_true (by omega)
  go_enter Try.func115, Try.ntmps115
  go_wp2_with fail
  go_ret
  exact ⟨rfl, H.out.err_ 5, (Kit.But.refl g w).set_ 1 _⟩

set_option maxRecDepth 100000 in
set_option maxHeartbeats 2000000 in
theorem rnum_long {R : Ending → World → Prop} (w : World) (g : Nat) (K : Nat) (r : List Int) (h : RfAt w g ((247 + (K : Int)) :: r) 0) (hK : 1 ≤ K) (hK8 : K ≤ 8) (hr : K ≤ r.length)
    (hbad : r.getD (K - 1) 0 = 0 ∨ val (r.take K) ≤ 247 → ∀ w', RfAt w' g ((247 + (K : Int)) :: r) 4 → Kit.But g w w' → R (.returned (.int .u64 0)) w')
    (hgood : ¬ (r.getD (K - 1) 0 = 0 ∨ val (r.take K) ≤ 247) → ∀ w', RfAt w' g (r.drop K) 0 → Kit.But g w w' → R (.returned (.int .u64 (val (r.take K)))) w') :
    Calls Try.prog 115 #[.pointer (some ⟨g, 0, none⟩)] w R := by
  have HBAD := Lib.hid hbad; have HGOOD := Lib.hid hgood; clear hbad hgood
  have H := Lib.hid h
  obtain ⟨A, n, c, h1, h2, hc, hn, hl⟩ := h
  obtain rfl : n = r.length + 1 := h2.1.symm
  obtain ⟨b, off, rfl, hlt, hcell⟩ := h2.2 (by omega)
  have y0 : w.cell? ⟨b, off + 0, none⟩ = some (.int .u8 (247 + (K : Int))) := hcell 0 (by omega)
  rw [Nat.add_zero] at y0
  have x0 : w.cell? ⟨g, 0, none⟩ = some (.slice (some ⟨b, off, none⟩) (r.length + 1) c) := Kit.cell h1 0 _ rfl
  have x1 : w.cell? ⟨g, 1, none⟩ = some (.int .i64 0) := Kit.cell h1 1 _ rfl
  have f0 := Kit.frz h1 0
  have f1 := Kit.frz h1 1
  have hrl : ∀ y ∈ r, 0 ≤ y ∧ y < 256 := fun y hy => hl y (by simp [hy])
  have hcj : ∀ j, 1 ≤ j → j ≤ K → w.cell? ⟨b, off + j, none⟩ = some (.int .u8 (r.getD (j - 1) 0)) ∧ 0 ≤ r.getD (j - 1) 0 ∧ r.getD (j - 1) 0 < 256 := fun j h1 h2 => by
    have h3 := hcell j (by omega)
    obtain ⟨i, rfl⟩ : ∃ i, j = i + 1 := ⟨j - 1, by omega⟩
    refine ⟨by simpa [List.getD] using h3, ?_⟩
    have hi : i < r.length := by omega
    have : r.getD (i + 1 - 1) 0 = r[i] := by simp [List.getD, List.getElem?_eq_getElem hi]
    rw [this]
    exact hrl _ (List.getElem_mem hi)
  clear hcell hl
  have HC := Lib.hid hcj; have HRL := Lib.hid hrl; have H1 := Lib.hid h1; have H2 := Lib.hid h2; clear hcj hrl h1 h2
  have d1 : decide ((247 : Int) + K ≤ 247) = false := decide_eq_false (by omega)
  have d2 : decide (r.length + 1 < 1 + K) = false := decide_eq_false (by omega)
  go_enter Try.func115, Try.ntmps115
  go_wp2_with fail
  go_loop [4, 5] (fun x i => ∃ j : Nat, j ≤ K ∧ i = .int .i64 j ∧ x = .int .u64 (val ((r.take K).drop j))) (fun _ i => (intOf i).toNat)
  case atStart => exact ⟨K, Nat.le_refl _, by go_num, by rw [List.drop_of_length_le (by rw [List.length_take]; omega)]; rfl⟩
  case round =>
    obtain ⟨j, hj, rfl, rfl⟩ := hrel
    by_cases hp : 1 ≤ j
    · obtain ⟨cj, c1, c2⟩ := HC.out j hp hj
      have hv := val_bound r HRL.out K j hp hK8
      have hst := val_step r K j hp hj hr
      have HST := Lib.hid hst; clear hst
      generalize val ((r.take K).drop j) = X at *
      obtain ⟨hv1, hv2⟩ := hv
      generalize r.getD (j - 1) 0 = B at *
      have dj : decide (1 ≤ (j : Int)) = true := decide_eq_true (by omega)
      have dj2 : decide ((j : Int) < r.length + 1) = true := decide_eq_true (by omega)
      go_wp2_with fail
      exact ⟨⟨j - 1, by omega, by congr 1; omega, by rw [HST.out]; congr 1; omega⟩, by simp [intOf]; omega⟩
    · obtain rfl : j = 0 := by omega
      rw [List.drop_zero]
      obtain ⟨cj, c1, c2⟩ := HC.out K hK (Nat.le_refl _)
      have hv := val_bound8 r HRL.out K hK8
      have dj : decide ((1 : Int) ≤ ((0 : Nat) : Int)) = false := rfl
      have dj2 : decide ((K : Int) < r.length + 1) = true := decide_eq_true (by omega)
      have hres : ∀ (A' : Option Addr) (m' c' : Nat), A' = cutA (some ⟨b, off, none⟩) c (1 + K) → m' = r.length - K → r.length - K ≤ c' → RfAt (w.setCell ⟨g, 0, none⟩ (.slice A' m' c')) g (r.drop K) 0 := fun A' m' c' hA hm hc' => by
        subst hA hm
        refine ⟨_, r.length - K, c', Kit.set_ H1.out 0 _ rfl, ?_, hc', by omega, fun y hy => HRL.out y (List.mem_of_mem_drop hy)⟩
        have h5 := (H2.out.drop (1 + K) (by omega) hc).rset H1.out 0 (.slice (cutA (some ⟨b, off, none⟩) c (1 + K)) (r.length - K) c')
        rw [show r.length + 1 - (1 + K) = r.length - K by omega, Nat.add_comm 1 K, List.drop_succ_cons] at h5
        rw [Nat.add_comm 1 K]
        exact h5
      have HRES := Lib.hid hres; clear hres
      generalize val (r.take K) = X at *
      obtain ⟨hv1, hv2⟩ := hv
      generalize r.getD (K - 1) 0 = B at *
      by_cases e1 : B = 0
      · subst e1
        go_wp2_with fail
        exact HBAD.out (.inl (by trivial)) _ (H.out.err_ 4) ((Kit.But.refl g w).set_ 1 _)
      · have e1b : (B == 0) = false := by simpa using e1
        by_cases e2 : X ≤ 247
        · have e2b : decide (X ≤ 247) = true := decide_eq_true e2
          go_wp2_with fail
          exact HBAD.out (.inr e2) _ (H.out.err_ 4) ((Kit.But.refl g w).set_ 1 _)
        · have e2b : decide (X ≤ 247) = false := decide_eq_false e2
          by_cases hc1 : c = 1 + K
          · subst hc1
            have hrK : r.length = K := by omega
            go_wp2_with fail
            exact HGOOD.out (by omega) _ (HRES.out _ _ 0 (by simp [cutA]) (by omega) (by omega)) ((Kit.But.refl g w).set_ 0 _)
          · go_wp2_with fail
            exact HGOOD.out (by omega) _ (HRES.out _ _ _ (by simp [cutA, hc1, Addr.add]) (by omega) (by omega)) ((Kit.But.refl g w).set_ 0 _)

/-- THE CONTRACT of the document's next number: what 'rf' tells. -/
theorem rnum_calls (w : World) (g : Nat) (l : List Int) (err : Int) (h : RfAt w g l err) :
    Calls Try.prog 115 #[.pointer (some ⟨g, 0, none⟩)] w fun e w' => e = .returned (.int .u64 (rf l err).1) ∧ RfAt w' g (rf l err).2.1 (rf l err).2.2 ∧ Kit.But g w w' := by
  by_cases he : err = 0
  case neg =>
    have e : rf l err = (0, l, err) := by simp [rf, he]
    rw [e]
    refine (rnum_dead w g l err h he).mono ?_
    rintro e w' ⟨rfl, rfl⟩
    exact ⟨rfl, h, Kit.But.refl _ _⟩
  subst he
  have e : rf l 0 = rd l := by simp [rf]
  rw [e]
  match l, h with
  | [], h => exact rnum_empty w g h
  | x :: r, h =>
    have hx : 0 ≤ x ∧ x < 256 := h.bytes x (by simp)
    by_cases h1 : x ≤ 247
    · have e : rd (x :: r) = (x, r, 0) := by simp [rd, h1]
      rw [e]
      exact rnum_small w g x r h h1
    · obtain ⟨K, rfl⟩ : ∃ K : Nat, x = 247 + (K : Int) := ⟨(x - 247).toNat, by omega⟩
      have k1 : (247 + (K : Int) - 247).toNat = K := by omega
      have k2 : (247 + (K : Int) - 248).toNat = K - 1 := by omega
      by_cases h2 : r.length < K
      · have e : rd ((247 + (K : Int)) :: r) = (0, (247 + (K : Int)) :: r, 5) := by
          simp only [rd]; rw [if_neg h1, if_pos (by omega)]
        rw [e]
        exact rnum_short w g K r h (by omega) (by omega) h2
      · refine rnum_long w g K r h (by omega) (by omega) (by omega) (fun hb w' hr hB => ?_) (fun hg w' hr hB => ?_)
        · have e : rd ((247 + (K : Int)) :: r) = (0, (247 + (K : Int)) :: r, 4) := by
            simp only [rd]; rw [if_neg h1, if_neg (by omega), k1, k2, if_pos hb]
          rw [e]
          exact ⟨rfl, hr, hB⟩
        · have e : rd ((247 + (K : Int)) :: r) = (val (r.take K), r.drop K, 0) := by
            simp only [rd]; rw [if_neg h1, if_neg (by omega), k1, k2, if_neg hg]
          rw [e]
          exact ⟨rfl, hr, hB⟩
end Go.Proofs.YthbbbmomlehimaaR.Oc
