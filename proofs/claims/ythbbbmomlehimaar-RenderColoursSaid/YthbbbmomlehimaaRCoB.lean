import Derived.Test.YthbbbmomlehimaaRCoA
set_option linter.unusedVariables false
namespace Go.Proofs.YthbbbmomlehimaaR.Ts
open Go.RowKit

set_option maxRecDepth 100000 in
set_option maxHeartbeats 8000000 in
theorem wait_closure (s : Scr) (t : Int) (h : s.ok = true) (h1 : 0 ≤ t) (h2 : t ≤ 1099511627776) (w : World) (p g : Nat)
    (hp : w.heap[p]? = some (.cells #[.int .i64 t] 2 (0, 0))) (hg : w.heap[g]? = some (.cells s.vals 40 (0, 0))) (hne : g ≠ p) :
    Calls Try.prog 88 #[.pointer (some ⟨p, 0, none⟩), .pointer (some ⟨g, 0, none⟩)] w fun e w' => e = .returned (.tuple #[]) ∧ w'.heap[p]? = some (.cells #[.int .i64 (t + s.wait t)] 2 (0, 0)) ∧ Kit.But p w w' := by
  have hw := wait_calls s t h h1 h2
  have hw0 : 0 ≤ s.wait t := by unfold Scr.wait; split <;> omega
  have hw6 : s.wait t ≤ 6 := by
    unfold Scr.wait; split
    · omega
    · omega
  have p0 : w.cell? ⟨p, 0, none⟩ = some (.int .i64 t) := Kit.cell hp 0 _ rfl
  have g0 : w.cell? ⟨g, 0, none⟩ = some (.int .i64 s.lines) := Kit.cell hg 0 _ rfl
  have g1 : w.cell? ⟨g, 1, none⟩ = some (.int .i64 s.columns) := Kit.cell hg 1 _ rfl
  have g2 : w.cell? ⟨g, 2, none⟩ = some (.int .i64 s.top) := Kit.cell hg 2 _ rfl
  have g3 : w.cell? ⟨g, 3, none⟩ = some (.int .i64 s.rows) := Kit.cell hg 3 _ rfl
  have g4 : w.cell? ⟨g, 4, none⟩ = some (.int .i64 s.left) := Kit.cell hg 4 _ rfl
  have g5 : w.cell? ⟨g, 5, none⟩ = some (.int .i64 s.wide) := Kit.cell hg 5 _ rfl
  have g6 : w.cell? ⟨g, 6, none⟩ = some (.int .i64 s.pulse) := Kit.cell hg 6 _ rfl
  have f0 := Kit.frz hp 0
  have lg := Kit.lt hg
  have lp := Kit.lt hp
  have HP := Lib.hid hp; clear hp
  have HG := Lib.hid hg; clear hg
  clear h
  have HW := Lib.hid hw; clear hw
  unfold Scr.val Scr.vals at *
  generalize s.wait t = z at *
  go_enter Try.func88, Try.ntmps88
  go_wp2_with fail
  go_region_with ((go_at_call 86; refine (HW.out _).mono ?_; rintro e w1 ⟨rfl, hb⟩; have q0 := (hb.cell (p := ⟨p, 0, none⟩) (by first | (simp; done) | (simp; omega) | omega)).trans p0; have q1 := (hb.frozen (p := ⟨p, 0, none⟩) (by first | (simp; done) | (simp; omega) | omega)).trans f0))
  all_goals
    have hp1 : w1.heap[p]? = some (.cells #[.int .i64 t] 2 (0, 0)) := (hb.block p (by first | (simp; done) | (simp; omega) | omega)).trans HP.out
    have hw2 : IntKind.i64.wrap (t + z) = t + z := by rw [IntKind.wrap_i64]; omega
    have hbb : Kit.But p w w1 := Kit.But.trans ((Kit.But.refl p w).drew) (Kit.But.of_below hb)
    clear hb q0 q1
    go_end0
    exact ⟨rfl, Kit.set_ hp1 0 _ (by rw [hw2]; rfl), hbb.set_ _ _⟩
end Go.Proofs.YthbbbmomlehimaaR.Ts
