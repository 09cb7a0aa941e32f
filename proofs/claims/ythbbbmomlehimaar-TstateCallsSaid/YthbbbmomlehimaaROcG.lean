import Derived.Test.YthbbbmomlehimaaROcF
set_option linter.unusedVariables false
namespace Go.Proofs.YthbbbmomlehimaaR.Oc
open Go.RowKit

/-- A reader's state after a count, and what it tells. -/
def ct (l : List Int) (err m : Int) : Int × List Int × Int :=
  if err ≠ 0 then (0, l, err)
  else if (rd l).2.2 ≠ 0 then (0, (rd l).2.1, (rd l).2.2)
  else if m < (rd l).1 then (0, (rd l).2.1, 3)
  else ((rd l).1, (rd l).2.1, 0)

theorem rd_nonneg (l : List Int) (h : ∀ b ∈ l, 0 ≤ b ∧ b < 256) : 0 ≤ (rd l).1 := by
  cases l with
  | nil => simp [rd]
  | cons c r =>
    simp only [rd]
    split
    · exact (h c (by simp)).1
    · split
      · exact Int.le_refl _
      · split
        · exact Int.le_refl _
        · exact (val_nonneg _ (fun b hb => h b (by simp [List.mem_of_mem_take hb]))).1

theorem RdAt.bytes {w : World} {g : Nat} {l : List Int} {err : Int} (h : RdAt w g l err) : ∀ b ∈ l, 0 ≤ b ∧ b < 256 := by
  obtain ⟨_, _, _, _, _, _, _, hl⟩ := h; exact hl

set_option maxRecDepth 100000 in
theorem count_calls (w : World) (g : Nat) (l : List Int) (err : Int) (h : RdAt w g l err) :
    Calls Try.prog 108 #[.pointer (some ⟨g, 0, none⟩), .int .i64 1000] w fun e w' => e = .returned (.int .i64 (ct l err 1000).1) ∧ RdAt w' g (ct l err 1000).2.1 (ct l err 1000).2.2 ∧ Kit.But g w w' := by
  by_cases he : err = 0
  · subst he
    have hn := num_calls w g l h
    have hx := rd_nonneg l h.bytes
    have hc : ct l 0 1000 = if (rd l).2.2 ≠ 0 then (0, (rd l).2.1, (rd l).2.2) else if 1000 < (rd l).1 then (0, (rd l).2.1, 3) else ((rd l).1, (rd l).2.1, 0) := by simp [ct]
    rw [hc]; clear hc h
    generalize rd l = p at *
    obtain ⟨x, l', e'⟩ := p
    simp only at *
    have HN := Lib.hid hn; clear hn
    by_cases he : e' = 0
    · subst he
      rw [if_neg (by simp)]
      by_cases hm : 1000 < x
      · rw [if_pos hm]
        go_enter Try.func108, Try.ntmps108
        go_wp2_with fail
        refine HN.out.mono ?_; rintro e w1 ⟨rfl, hr, hb⟩
        have HR := Lib.hid hr; have HB := Lib.hid hb; clear hr hb
        go_wp2_with fail
        refine (dead_no w1 g _ HR.out).mono ?_; rintro e w2 ⟨rfl, rfl⟩
        have dm : decide (1000 < x) = true := decide_eq_true hm
        go_wp2_with fail
        refine (fail_calls w1 g _ 0 3 HR.out).mono ?_; rintro e w2 ⟨rfl, hr, hb⟩
        have HR2 := Lib.hid hr; have HB2 := Lib.hid hb; clear hr hb
        go_wp2_with fail
        go_ret
        exact ⟨rfl, HR2.out, HB.out.trans HB2.out⟩
      · rw [if_neg hm]
        go_enter Try.func108, Try.ntmps108
        go_wp2_with fail
        refine HN.out.mono ?_; rintro e w1 ⟨rfl, hr, hb⟩
        have HR := Lib.hid hr; have HB := Lib.hid hb; clear hr hb
        go_wp2_with fail
        refine (dead_no w1 g _ HR.out).mono ?_; rintro e w2 ⟨rfl, rfl⟩
        have dm : decide (1000 < x) = false := decide_eq_false (by omega)
        go_wp2_with fail
        go_ret
        exact ⟨rfl, HR.out, HB.out⟩
    · rw [if_pos he]
      have HE := Lib.hid he; clear he
      go_enter Try.func108, Try.ntmps108
      go_wp2_with fail
      refine HN.out.mono ?_; rintro e w1 ⟨rfl, hr, hb⟩
      have HR := Lib.hid hr; have HB := Lib.hid hb; clear hr hb
      go_wp2_with fail
      refine (dead_yes w1 g _ _ HR.out HE.out).mono ?_; rintro e w2 ⟨rfl, rfl⟩
      go_wp2_with fail
      go_ret
      exact ⟨rfl, HR.out, HB.out⟩
  · have hc : ct l err 1000 = (0, l, err) := by simp [ct, he]
    rw [hc]; clear hc
    have H := Lib.hid h; have HE := Lib.hid he; clear h he
    go_enter Try.func108, Try.ntmps108
    go_wp2_with fail
    refine (num_dead w g l err H.out HE.out).mono ?_; rintro e w1 ⟨rfl, rfl⟩
    go_wp2_with fail
    refine (dead_yes w g _ _ H.out HE.out).mono ?_; rintro e w2 ⟨rfl, rfl⟩
    go_wp2_with fail
    go_ret
    exact ⟨rfl, H.out, Kit.But.refl _ _⟩

/-- A reader's end. -/
def en (l : List Int) (err : Int) : Int := if err ≠ 0 then err else if l ≠ [] then 4 else 0

theorem end_calls (w : World) (g : Nat) (l : List Int) (err : Int) (h : RdAt w g l err) :
    Calls Try.prog 109 #[.pointer (some ⟨g, 0, none⟩)] w fun e w' => e = .returned (.int .i64 (en l err)) ∧ RdAt w' g l (en l err) ∧ Kit.But g w w' := by
  have H := Lib.hid h
  obtain ⟨A, n, c, h1, h2, h3⟩ := h
  have x0 : w.cell? ⟨g, 0, none⟩ = some (.slice A n c) := Kit.cell h1 0 _ rfl
  have x1 : w.cell? ⟨g, 1, none⟩ = some (.int .i64 err) := Kit.cell h1 1 _ rfl
  have f1 := Kit.frz h1 1
  have hl := h2.1
  have H1 := Lib.hid h1; have H2 := Lib.hid h2; have H3 := Lib.hid h3; clear h1 h2 h3
  by_cases he : err = 0
  · subst he
    by_cases hn : l = []
    · have : en l 0 = 0 := by simp [en, hn]
      rw [this]; clear this
      obtain rfl : n = 0 := by rw [← hl, hn]; rfl
      clear hn hl
      go_enter Try.func109, Try.ntmps109
      go_wp2_with fail
      refine (err_calls w g l 0 H.out).mono ?_; rintro e w1 ⟨rfl, rfl⟩
      go_wp2_with fail
      go_ret
      exact ⟨rfl, H.out, Kit.But.refl _ _⟩
    · have : en l 0 = 4 := by simp [en, hn]
      rw [this]; clear this
      have hp : 0 < n := by rw [← hl]; exact List.length_pos_iff.2 hn
      have dn : decide (0 < (n : Int)) = true := decide_eq_true (by omega)
      have HLL := Lib.hid hl
      clear hn hl
      go_enter Try.func109, Try.ntmps109
      go_wp2_with fail
      refine (err_calls w g l 0 H.out).mono ?_; rintro e w1 ⟨rfl, rfl⟩
      go_wp2_with fail
      go_ret
      exact ⟨rfl, ⟨A, n, c, Kit.set_ H1.out 1 _ rfl, H2.out.set_ H1.out 1 _, H3.out⟩, (Kit.But.refl g w).set_ 1 _⟩
  · have : en l err = err := by simp [en, he]
    rw [this]; clear this
    have heb : (err != 0) = true := by simpa using he
    clear he hl
    go_enter Try.func109, Try.ntmps109
    go_wp2_with fail
    refine (err_calls w g l err H.out).mono ?_; rintro e w1 ⟨rfl, rfl⟩
    go_wp2_with fail
    go_ret
    exact ⟨rfl, H.out, Kit.But.refl _ _⟩
end Go.Proofs.YthbbbmomlehimaaR.Oc
