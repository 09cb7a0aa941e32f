import Derived.Test.YthbbbmomlehimaaRKitB
set_option linter.unusedVariables false
namespace Go.Proofs.YthbbbmomlehimaaR.Oc
open Go.RowKit

/-! Plain: a number's bytes, and back. -/
def le (x : Nat) : List Int := if h : x = 0 then [] else ((x % 256 : Nat) : Int) :: le (x / 256)
termination_by x
decreasing_by omega
def val : List Int → Int
  | [] => 0
  | b :: r => b + 256 * val r
def enc (x : Nat) : List Int := if x ≤ 247 then [(x : Int)] else (247 + (le x).length : Int) :: le x
theorem le_zero : le 0 = [] := by rw [le]; simp
theorem le_pos {x : Nat} (h : x ≠ 0) : le x = ((x % 256 : Nat) : Int) :: le (x / 256) := by rw [le, dif_neg h]
theorem val_le (x : Nat) : val (le x) = x := by
  induction x using Nat.strongRecOn with
  | _ x ih =>
    by_cases h : x = 0
    · subst h; simp [le_zero, val]
    · rw [le_pos h, val, ih (x / 256) (by omega)]; omega
theorem le_byte (x : Nat) : ∀ b ∈ le x, 0 ≤ b ∧ b < 256 := by
  induction x using Nat.strongRecOn with
  | _ x ih =>
    by_cases h : x = 0
    · subst h; simp [le_zero]
    · rw [le_pos h]
      intro b hb
      rcases List.mem_cons.1 hb with rfl | hb
      · omega
      · exact ih (x / 256) (by omega) b hb
theorem le_length (k : Nat) : ∀ x : Nat, x < 256 ^ k → (le x).length ≤ k := by
  induction k with
  | zero => intro x hx; have : x = 0 := by simpa using hx
            subst this; simp [le_zero]
  | succ k ih =>
    intro x hx
    by_cases h : x = 0
    · subst h; simp [le_zero]
    · rw [le_pos h, List.length_cons]
      have := ih (x / 256) (by rw [Nat.pow_succ] at hx; omega)
      omega
theorem le_last (x : Nat) (h : x ≠ 0) : ∃ l c, le x = l ++ [c] ∧ c ≠ 0 := by
  induction x using Nat.strongRecOn with
  | _ x ih =>
    rw [le_pos h]
    by_cases h2 : x / 256 = 0
    · rw [h2, le_zero]
      exact ⟨[], _, rfl, by omega⟩
    · obtain ⟨l, c, e, hc⟩ := ih (x / 256) (by omega) h2
      rw [e]
      exact ⟨_ :: l, c, rfl, hc⟩
theorem val_nonneg (l : List Int) (h : ∀ b ∈ l, 0 ≤ b ∧ b < 256) : 0 ≤ val l ∧ val l < 256 ^ l.length := by
  induction l with
  | nil => simp [val]
  | cons b r ih =>
    have h1 := h b (by simp)
    have h2 := ih fun c hc => h c (by simp [hc])
    simp only [val, List.length_cons, Int.pow_succ]
    omega
theorem enc_byte (x : Nat) (hx : x < 256 ^ 8) : ∀ b ∈ enc x, 0 ≤ b ∧ b < 256 := by
  have hl := le_length 8 x hx
  unfold enc
  split
  · intro b hb; simp at hb; omega
  · intro b hb
    rcases List.mem_cons.1 hb with rfl | hb
    · omega
    · exact le_byte x b hb
/-- What is read: the number, what is left, the error (0: none). -/
def rd (l : List Int) : Int × List Int × Int :=
  match l with
  | [] => (0, [], 5)
  | c :: r =>
    if c ≤ 247 then (c, r, 0)
    else if (r.length : Int) < c - 247 then (0, c :: r, 5)
    else if r.getD (c - 248).toNat 0 = 0 ∨ val (r.take (c - 247).toNat) ≤ 247 then (0, c :: r, 4)
    else (val (r.take (c - 247).toNat), r.drop (c - 247).toNat, 0)
theorem rd_enc (x : Nat) (r : List Int) : rd (enc x ++ r) = ((x : Int), r, 0) := by
  unfold enc
  split
  · simp [rd]; omega
  · rename_i h
    have hne : x ≠ 0 := by omega
    obtain ⟨l, c, e, hc⟩ := le_last x hne
    have hv := val_le x
    have hn : (247 + ((le x).length : Int) - 247).toNat = (le x).length := by omega
    have hn2 : (247 + ((le x).length : Int) - 248).toNat = l.length := by rw [e, List.length_append, List.length_singleton]; omega
    have hp : 0 < (le x).length := by rw [e]; simp
    simp only [rd, List.cons_append]
    rw [if_neg (by omega), if_neg (by simp; omega), hn, hn2]
    rw [List.take_left', List.drop_left'] <;> try rfl
    rw [hv, if_neg]
    rw [e]
    simp
    exact ⟨hc, by omega⟩
end Go.Proofs.YthbbbmomlehimaaR.Oc
