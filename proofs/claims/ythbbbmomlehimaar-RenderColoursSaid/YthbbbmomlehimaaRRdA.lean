import Derived.Test.YthbbbmomlehimaaRKitB
set_option linter.unusedVariables false
namespace Go.Proofs.YthbbbmomlehimaaR.Rd
open Go.RowKit

theorem and128 (a : Int) (h0 : 0 ≤ a) (h1 : a < 256) : (bits .and .u8 a 128 != 0) = decide (128 ≤ a) := by
  have h : ∀ n : Fin 256, (bits .and .u8 ((n.val : Nat) : Int) 128 != 0) = decide ((128 : Int) ≤ (n.val : Nat)) := by decide +kernel
  have := h ⟨a.toNat, by omega⟩
  simpa [show ((a.toNat : Nat) : Int) = a by omega] using this
theorem and64 (a : Int) (h0 : 0 ≤ a) (h1 : a < 256) : (bits .and .u8 a 64 != 0) = decide (a / 64 % 2 = 1) := by
  have h : ∀ n : Fin 256, (bits .and .u8 ((n.val : Nat) : Int) 64 != 0) = decide (((n.val : Nat) : Int) / 64 % 2 = 1) := by decide +kernel
  have := h ⟨a.toNat, by omega⟩
  simpa [show ((a.toNat : Nat) : Int) = a by omega] using this
/-- The ink or the paper of an attribute, bright or not. -/
def hue (a : Int) (on : Bool) : Int := (if on then a % 8 else a / 8 % 8) + (if a / 64 % 2 = 1 then 8 else 0)
def turned (a f : Int) : Bool := decide (128 ≤ a) && (f / 16 % 2 == 1)
def col (a : Int) (on : Bool) (f : Int) : Int := hue a (on != turned a f)

theorem col_0true0 (a f : Int) (w : World) (h0 : 0 ≤ a) (h1 : a < 256) (f0 : 0 ≤ f) (f1 : f ≤ 2199023255552) (hb : decide (128 ≤ a) = false)  (hs : decide (a / 64 % 2 = 1) = false) :
    Calls Try.prog 43 #[.int .u8 a, .bool true, .int .i64 f] w fun e w' => e = .returned (.int .u8 (col a true f)) ∧ w = w' := by
  have he : col a true f = a % 8 := by
    unfold col turned
    rw [hb]
    simp only [decide_eq_false_iff_not] at hs
    simp [hue, hs]
  rw [he]
  have a1 := and128 a h0 h1
  have a2 := and64 a h0 h1
  rw [hb] at a1
  rw [hs] at a2
  clear he hb hs
  go_enter Try.func43, Try.ntmps43
  go_wp2_with fail
  all_goals first | (go_ret; exact ⟨rfl, rfl⟩) | (exfalso; have hf : f = 0 := (by omega); subst hf; simp at hp)

theorem col_0true1 (a f : Int) (w : World) (h0 : 0 ≤ a) (h1 : a < 256) (f0 : 0 ≤ f) (f1 : f ≤ 2199023255552) (hb : decide (128 ≤ a) = false)  (hs : decide (a / 64 % 2 = 1) = true) :
    Calls Try.prog 43 #[.int .u8 a, .bool true, .int .i64 f] w fun e w' => e = .returned (.int .u8 (col a true f)) ∧ w = w' := by
  have he : col a true f = a % 8 + 8 := by
    unfold col turned
    rw [hb]
    simp only [decide_eq_true_eq] at hs
    simp [hue, hs]
  rw [he]
  have a1 := and128 a h0 h1
  have a2 := and64 a h0 h1
  rw [hb] at a1
  rw [hs] at a2
  clear he hb hs
  go_enter Try.func43, Try.ntmps43
  go_wp2_with fail
  all_goals first | (go_ret; exact ⟨rfl, rfl⟩) | (exfalso; have hf : f = 0 := (by omega); subst hf; simp at hp)

theorem col_0false0 (a f : Int) (w : World) (h0 : 0 ≤ a) (h1 : a < 256) (f0 : 0 ≤ f) (f1 : f ≤ 2199023255552) (hb : decide (128 ≤ a) = false)  (hs : decide (a / 64 % 2 = 1) = false) :
    Calls Try.prog 43 #[.int .u8 a, .bool false, .int .i64 f] w fun e w' => e = .returned (.int .u8 (col a false f)) ∧ w = w' := by
  have he : col a false f = a / 8 % 8 := by
    unfold col turned
    rw [hb]
    simp only [decide_eq_false_iff_not] at hs
    simp [hue, hs]
  rw [he]
  have a1 := and128 a h0 h1
  have a2 := and64 a h0 h1
  rw [hb] at a1
  rw [hs] at a2
  clear he hb hs
  go_enter Try.func43, Try.ntmps43
  go_wp2_with fail
  all_goals first | (go_ret; exact ⟨rfl, rfl⟩) | (exfalso; have hf : f = 0 := (by omega); subst hf; simp at hp)

theorem col_0false1 (a f : Int) (w : World) (h0 : 0 ≤ a) (h1 : a < 256) (f0 : 0 ≤ f) (f1 : f ≤ 2199023255552) (hb : decide (128 ≤ a) = false)  (hs : decide (a / 64 % 2 = 1) = true) :
    Calls Try.prog 43 #[.int .u8 a, .bool false, .int .i64 f] w fun e w' => e = .returned (.int .u8 (col a false f)) ∧ w = w' := by
  have he : col a false f = a / 8 % 8 + 8 := by
    unfold col turned
    rw [hb]
    simp only [decide_eq_true_eq] at hs
    simp [hue, hs]
  rw [he]
  have a1 := and128 a h0 h1
  have a2 := and64 a h0 h1
  rw [hb] at a1
  rw [hs] at a2
  clear he hb hs
  go_enter Try.func43, Try.ntmps43
  go_wp2_with fail
  all_goals first | (go_ret; exact ⟨rfl, rfl⟩) | (exfalso; have hf : f = 0 := (by omega); subst hf; simp at hp)

theorem col_10true0 (a f : Int) (w : World) (h0 : 0 ≤ a) (h1 : a < 256) (f0 : 0 ≤ f) (f1 : f ≤ 2199023255552) (hb : decide (128 ≤ a) = true) (hp : (f / 16 % 2 == 1) = false) (hs : decide (a / 64 % 2 = 1) = false) :
    Calls Try.prog 43 #[.int .u8 a, .bool true, .int .i64 f] w fun e w' => e = .returned (.int .u8 (col a true f)) ∧ w = w' := by
  have he : col a true f = a % 8 := by
    unfold col turned
    rw [hb, hp]
    simp only [decide_eq_false_iff_not] at hs
    simp [hue, hs]
  rw [he]
  have a1 := and128 a h0 h1
  have a2 := and64 a h0 h1
  rw [hb] at a1
  rw [hs] at a2
  clear he hb hs
  go_enter Try.func43, Try.ntmps43
  go_wp2_with fail
  all_goals first | (go_ret; exact ⟨rfl, rfl⟩) | (exfalso; have hf : f = 0 := (by omega); subst hf; simp at hp)

theorem col_10true1 (a f : Int) (w : World) (h0 : 0 ≤ a) (h1 : a < 256) (f0 : 0 ≤ f) (f1 : f ≤ 2199023255552) (hb : decide (128 ≤ a) = true) (hp : (f / 16 % 2 == 1) = false) (hs : decide (a / 64 % 2 = 1) = true) :
    Calls Try.prog 43 #[.int .u8 a, .bool true, .int .i64 f] w fun e w' => e = .returned (.int .u8 (col a true f)) ∧ w = w' := by
  have he : col a true f = a % 8 + 8 := by
    unfold col turned
    rw [hb, hp]
    simp only [decide_eq_true_eq] at hs
    simp [hue, hs]
  rw [he]
  have a1 := and128 a h0 h1
  have a2 := and64 a h0 h1
  rw [hb] at a1
  rw [hs] at a2
  clear he hb hs
  go_enter Try.func43, Try.ntmps43
  go_wp2_with fail
  all_goals first | (go_ret; exact ⟨rfl, rfl⟩) | (exfalso; have hf : f = 0 := (by omega); subst hf; simp at hp)

theorem col_10false0 (a f : Int) (w : World) (h0 : 0 ≤ a) (h1 : a < 256) (f0 : 0 ≤ f) (f1 : f ≤ 2199023255552) (hb : decide (128 ≤ a) = true) (hp : (f / 16 % 2 == 1) = false) (hs : decide (a / 64 % 2 = 1) = false) :
    Calls Try.prog 43 #[.int .u8 a, .bool false, .int .i64 f] w fun e w' => e = .returned (.int .u8 (col a false f)) ∧ w = w' := by
  have he : col a false f = a / 8 % 8 := by
    unfold col turned
    rw [hb, hp]
    simp only [decide_eq_false_iff_not] at hs
    simp [hue, hs]
  rw [he]
  have a1 := and128 a h0 h1
  have a2 := and64 a h0 h1
  rw [hb] at a1
  rw [hs] at a2
  clear he hb hs
  go_enter Try.func43, Try.ntmps43
  go_wp2_with fail
  all_goals first | (go_ret; exact ⟨rfl, rfl⟩) | (exfalso; have hf : f = 0 := (by omega); subst hf; simp at hp)

theorem col_10false1 (a f : Int) (w : World) (h0 : 0 ≤ a) (h1 : a < 256) (f0 : 0 ≤ f) (f1 : f ≤ 2199023255552) (hb : decide (128 ≤ a) = true) (hp : (f / 16 % 2 == 1) = false) (hs : decide (a / 64 % 2 = 1) = true) :
    Calls Try.prog 43 #[.int .u8 a, .bool false, .int .i64 f] w fun e w' => e = .returned (.int .u8 (col a false f)) ∧ w = w' := by
  have he : col a false f = a / 8 % 8 + 8 := by
    unfold col turned
    rw [hb, hp]
    simp only [decide_eq_true_eq] at hs
    simp [hue, hs]
  rw [he]
  have a1 := and128 a h0 h1
  have a2 := and64 a h0 h1
  rw [hb] at a1
  rw [hs] at a2
  clear he hb hs
  go_enter Try.func43, Try.ntmps43
  go_wp2_with fail
  all_goals first | (go_ret; exact ⟨rfl, rfl⟩) | (exfalso; have hf : f = 0 := (by omega); subst hf; simp at hp)

theorem col_11true0 (a f : Int) (w : World) (h0 : 0 ≤ a) (h1 : a < 256) (f0 : 0 ≤ f) (f1 : f ≤ 2199023255552) (hb : decide (128 ≤ a) = true) (hp : (f / 16 % 2 == 1) = true) (hs : decide (a / 64 % 2 = 1) = false) :
    Calls Try.prog 43 #[.int .u8 a, .bool true, .int .i64 f] w fun e w' => e = .returned (.int .u8 (col a true f)) ∧ w = w' := by
  have he : col a true f = a / 8 % 8 := by
    unfold col turned
    rw [hb, hp]
    simp only [decide_eq_false_iff_not] at hs
    simp [hue, hs]
  rw [he]
  have a1 := and128 a h0 h1
  have a2 := and64 a h0 h1
  rw [hb] at a1
  rw [hs] at a2
  clear he hb hs
  go_enter Try.func43, Try.ntmps43
  go_wp2_with fail
  all_goals first | (go_ret; exact ⟨rfl, rfl⟩) | (exfalso; have hf : f = 0 := (by omega); subst hf; simp at hp)

theorem col_11true1 (a f : Int) (w : World) (h0 : 0 ≤ a) (h1 : a < 256) (f0 : 0 ≤ f) (f1 : f ≤ 2199023255552) (hb : decide (128 ≤ a) = true) (hp : (f / 16 % 2 == 1) = true) (hs : decide (a / 64 % 2 = 1) = true) :
    Calls Try.prog 43 #[.int .u8 a, .bool true, .int .i64 f] w fun e w' => e = .returned (.int .u8 (col a true f)) ∧ w = w' := by
  have he : col a true f = a / 8 % 8 + 8 := by
    unfold col turned
    rw [hb, hp]
    simp only [decide_eq_true_eq] at hs
    simp [hue, hs]
  rw [he]
  have a1 := and128 a h0 h1
  have a2 := and64 a h0 h1
  rw [hb] at a1
  rw [hs] at a2
  clear he hb hs
  go_enter Try.func43, Try.ntmps43
  go_wp2_with fail
  all_goals first | (go_ret; exact ⟨rfl, rfl⟩) | (exfalso; have hf : f = 0 := (by omega); subst hf; simp at hp)

theorem col_11false0 (a f : Int) (w : World) (h0 : 0 ≤ a) (h1 : a < 256) (f0 : 0 ≤ f) (f1 : f ≤ 2199023255552) (hb : decide (128 ≤ a) = true) (hp : (f / 16 % 2 == 1) = true) (hs : decide (a / 64 % 2 = 1) = false) :
    Calls Try.prog 43 #[.int .u8 a, .bool false, .int .i64 f] w fun e w' => e = .returned (.int .u8 (col a false f)) ∧ w = w' := by
  have he : col a false f = a % 8 := by
    unfold col turned
    rw [hb, hp]
    simp only [decide_eq_false_iff_not] at hs
    simp [hue, hs]
  rw [he]
  have a1 := and128 a h0 h1
  have a2 := and64 a h0 h1
  rw [hb] at a1
  rw [hs] at a2
  clear he hb hs
  go_enter Try.func43, Try.ntmps43
  go_wp2_with fail
  all_goals first | (go_ret; exact ⟨rfl, rfl⟩) | (exfalso; have hf : f = 0 := (by omega); subst hf; simp at hp)

theorem col_11false1 (a f : Int) (w : World) (h0 : 0 ≤ a) (h1 : a < 256) (f0 : 0 ≤ f) (f1 : f ≤ 2199023255552) (hb : decide (128 ≤ a) = true) (hp : (f / 16 % 2 == 1) = true) (hs : decide (a / 64 % 2 = 1) = true) :
    Calls Try.prog 43 #[.int .u8 a, .bool false, .int .i64 f] w fun e w' => e = .returned (.int .u8 (col a false f)) ∧ w = w' := by
  have he : col a false f = a % 8 + 8 := by
    unfold col turned
    rw [hb, hp]
    simp only [decide_eq_true_eq] at hs
    simp [hue, hs]
  rw [he]
  have a1 := and128 a h0 h1
  have a2 := and64 a h0 h1
  rw [hb] at a1
  rw [hs] at a2
  clear he hb hs
  go_enter Try.func43, Try.ntmps43
  go_wp2_with fail
  all_goals first | (go_ret; exact ⟨rfl, rfl⟩) | (exfalso; have hf : f = 0 := (by omega); subst hf; simp at hp)

theorem colour_calls (a f : Int) (on : Bool) (w : World) (h0 : 0 ≤ a) (h1 : a < 256) (f0 : 0 ≤ f) (f1 : f ≤ 2199023255552) :
    Calls Try.prog 43 #[.int .u8 a, .bool on, .int .i64 f] w fun e w' => e = .returned (.int .u8 (col a on f)) ∧ w = w' := by
  cases hb : decide (128 ≤ a) <;> cases hp : (f / 16 % 2 == 1) <;> cases hs : decide (a / 64 % 2 = 1) <;> cases on
  · exact col_0false0 a f w h0 h1 f0 f1 hb hs
  · exact col_0true0 a f w h0 h1 f0 f1 hb hs
  · exact col_0false1 a f w h0 h1 f0 f1 hb hs
  · exact col_0true1 a f w h0 h1 f0 f1 hb hs
  · exact col_0false0 a f w h0 h1 f0 f1 hb hs
  · exact col_0true0 a f w h0 h1 f0 f1 hb hs
  · exact col_0false1 a f w h0 h1 f0 f1 hb hs
  · exact col_0true1 a f w h0 h1 f0 f1 hb hs
  · exact col_10false0 a f w h0 h1 f0 f1 hb hp hs
  · exact col_10true0 a f w h0 h1 f0 f1 hb hp hs
  · exact col_10false1 a f w h0 h1 f0 f1 hb hp hs
  · exact col_10true1 a f w h0 h1 f0 f1 hb hp hs
  · exact col_11false0 a f w h0 h1 f0 f1 hb hp hs
  · exact col_11true0 a f w h0 h1 f0 f1 hb hp hs
  · exact col_11false1 a f w h0 h1 f0 f1 hb hp hs
  · exact col_11true1 a f w h0 h1 f0 f1 hb hp hs

theorem hue_bounds (a : Int) (on : Bool) (h0 : 0 ≤ a) : 0 ≤ hue a on ∧ hue a on ≤ 15 := by
  unfold hue
  split <;> split <;> omega
end Go.Proofs.YthbbbmomlehimaaR.Rd
