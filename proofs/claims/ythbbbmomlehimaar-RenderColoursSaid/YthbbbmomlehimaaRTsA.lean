import Derived.Test.YthbbbmomlehimaaRProg
import Derived.Handy
import Derived.Laws.EntriesVeiled
import Derived.WalkSpells
import Derived.Lib.Hide
import Derived.BigQuiet
import Derived.Deep.QuietTactic
namespace Go.Proofs.YthbbbmomlehimaaR.Ts
open Go.RowKit

def within (n least most by_ : Int) : Bool := decide (least ≤ n) && decide (n ≤ most) && (n.tmod by_ == 0)

set_option maxHeartbeats 400000 in
theorem within_calls (n a b c : Int) (hc : 1 ≤ c) (w : World) :
    Calls Try.prog 95 #[.int .i64 n, .int .i64 a, .int .i64 b, .int .i64 c] w fun e w' => e = .returned (.bool (within n a b c)) ∧ w = w' := by
  by_cases h1 : a ≤ n
  · by_cases h2 : n ≤ b
    · have e : within n a b c = (n.tmod c == 0) := by simp [within, h1, h2]
      rw [e]; clear e
      go_enter Try.func95, Try.ntmps95
      go_wp2
      go_ret
      exact ⟨rfl, rfl⟩
    · have e : within n a b c = false := by simp [within, h2]
      rw [e]; clear e
      go_enter Try.func95, Try.ntmps95
      go_wp2
      go_ret
      exact ⟨rfl, rfl⟩
  · have e : within n a b c = false := by simp [within, h1]
    rw [e]; clear e
    go_enter Try.func95, Try.ntmps95
    go_wp2
    go_ret
    exact ⟨rfl, rfl⟩

/-- The screen that a block of seven cells holds. -/
structure Scr where
  (lines columns top rows left wide pulse : Int)
def Scr.vals (s : Scr) : Array Value := #[.int .i64 s.lines, .int .i64 s.columns, .int .i64 s.top, .int .i64 s.rows, .int .i64 s.left, .int .i64 s.wide, .int .i64 s.pulse]

section
variable (s : Scr) (w : World) (g p : Nat)

theorem c96 (hg : w.heap[g]? = some (.cells s.vals 40 (0, 0))) (hp : w.cell? ⟨p, 0, none⟩ = some (.func (.func 95) #[] #[])) :
    Calls Try.prog 96 #[.pointer (some ⟨p, 0, none⟩), .pointer (some ⟨g, 0, none⟩)] w fun e w' => e = .returned (.bool (within s.lines 1 400 1)) ∧ w = w' := by
  have h0 : w.cell? ⟨g, 0, none⟩ = some (.int .i64 s.lines) := cell_of_row w g 0 _ _ _ hg
  clear hg
  go_enter Try.func96, Try.ntmps96
  go_wp2_with (go_at_call 95; refine (within_calls _ _ _ _ (by omega) _).mono ?_; rintro e w' ⟨rfl, rfl⟩)
  go_ret
  exact ⟨rfl, rfl⟩

theorem c97 (hg : w.heap[g]? = some (.cells s.vals 40 (0, 0))) (hp : w.cell? ⟨p, 0, none⟩ = some (.func (.func 95) #[] #[])) :
    Calls Try.prog 97 #[.pointer (some ⟨p, 0, none⟩), .pointer (some ⟨g, 0, none⟩)] w fun e w' => e = .returned (.bool (within s.columns 8 400 4)) ∧ w = w' := by
  have h0 : w.cell? ⟨g, 1, none⟩ = some (.int .i64 s.columns) := cell_of_row w g 1 _ _ _ hg
  clear hg
  go_enter Try.func97, Try.ntmps97
  go_wp2_with (go_at_call 95; refine (within_calls _ _ _ _ (by omega) _).mono ?_; rintro e w' ⟨rfl, rfl⟩)
  go_ret
  exact ⟨rfl, rfl⟩

theorem c98 (hg : w.heap[g]? = some (.cells s.vals 40 (0, 0))) (hp : w.cell? ⟨p, 0, none⟩ = some (.func (.func 95) #[] #[])) :
    Calls Try.prog 98 #[.pointer (some ⟨p, 0, none⟩), .pointer (some ⟨g, 0, none⟩)] w fun e w' => e = .returned (.bool (within s.rows 0 192 8)) ∧ w = w' := by
  have h0 : w.cell? ⟨g, 3, none⟩ = some (.int .i64 s.rows) := cell_of_row w g 3 _ _ _ hg
  clear hg
  go_enter Try.func98, Try.ntmps98
  go_wp2_with (go_at_call 95; refine (within_calls _ _ _ _ (by omega) _).mono ?_; rintro e w' ⟨rfl, rfl⟩)
  go_ret
  exact ⟨rfl, rfl⟩

theorem c99 (hg : w.heap[g]? = some (.cells s.vals 40 (0, 0))) (hp : w.cell? ⟨p, 0, none⟩ = some (.func (.func 95) #[] #[])) :
    Calls Try.prog 99 #[.pointer (some ⟨p, 0, none⟩), .pointer (some ⟨g, 0, none⟩)] w fun e w' => e = .returned (.bool (within s.wide 0 32 2)) ∧ w = w' := by
  have h0 : w.cell? ⟨g, 5, none⟩ = some (.int .i64 s.wide) := cell_of_row w g 5 _ _ _ hg
  clear hg
  go_enter Try.func99, Try.ntmps99
  go_wp2_with (go_at_call 95; refine (within_calls _ _ _ _ (by omega) _).mono ?_; rintro e w' ⟨rfl, rfl⟩)
  go_ret
  exact ⟨rfl, rfl⟩

theorem c100 (hg : w.heap[g]? = some (.cells s.vals 40 (0, 0))) (hp : w.cell? ⟨p, 0, none⟩ = some (.func (.func 95) #[] #[])) :
    Calls Try.prog 100 #[.pointer (some ⟨p, 0, none⟩), .pointer (some ⟨g, 0, none⟩)] w fun e w' => e = .returned (.bool (within s.left 1 400 1)) ∧ w = w' := by
  have h0 : w.cell? ⟨g, 4, none⟩ = some (.int .i64 s.left) := cell_of_row w g 4 _ _ _ hg
  clear hg
  go_enter Try.func100, Try.ntmps100
  go_wp2_with (go_at_call 95; refine (within_calls _ _ _ _ (by omega) _).mono ?_; rintro e w' ⟨rfl, rfl⟩)
  go_ret
  exact ⟨rfl, rfl⟩

theorem c101 (hg : w.heap[g]? = some (.cells s.vals 40 (0, 0))) (hp : w.cell? ⟨p, 0, none⟩ = some (.func (.func 95) #[] #[])) :
    Calls Try.prog 101 #[.pointer (some ⟨p, 0, none⟩), .pointer (some ⟨g, 0, none⟩)] w fun e w' => e = .returned (.bool (within s.pulse 1 64 1)) ∧ w = w' := by
  have h0 : w.cell? ⟨g, 6, none⟩ = some (.int .i64 s.pulse) := cell_of_row w g 6 _ _ _ hg
  clear hg
  go_enter Try.func101, Try.ntmps101
  go_wp2_with (go_at_call 95; refine (within_calls _ _ _ _ (by omega) _).mono ?_; rintro e w' ⟨rfl, rfl⟩)
  go_ret
  exact ⟨rfl, rfl⟩

theorem c102 (hg : w.heap[g]? = some (.cells s.vals 40 (0, 0))) (hp : w.cell? ⟨p, 0, none⟩ = some (.func (.func 95) #[] #[])) :
    Calls Try.prog 102 #[.pointer (some ⟨p, 0, none⟩), .pointer (some ⟨g, 0, none⟩)] w fun e w' => e = .returned (.bool (within s.top 0 400 1)) ∧ w = w' := by
  have h0 : w.cell? ⟨g, 2, none⟩ = some (.int .i64 s.top) := cell_of_row w g 2 _ _ _ hg
  clear hg
  go_enter Try.func102, Try.ntmps102
  go_wp2_with (go_at_call 95; refine (within_calls _ _ _ _ (by omega) _).mono ?_; rintro e w' ⟨rfl, rfl⟩)
  go_ret
  exact ⟨rfl, rfl⟩

end
end Go.Proofs.YthbbbmomlehimaaR.Ts
