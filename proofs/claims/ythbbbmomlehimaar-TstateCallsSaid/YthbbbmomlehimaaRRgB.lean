import Derived.Test.YthbbbmomlehimaaRRgA
import Derived.Test.YthbbbmomlehimaaRTsN
set_option linter.unusedVariables false
namespace Go.Proofs.YthbbbmomlehimaaR.Ts
open Go.RowKit Oc

set_option maxRecDepth 100000 in
theorem rspot_no (s : Scr) (t : Int) (h : s.ok = false ∨ t < 0 ∨ 1099511627776 < t) (w : World) :
    Calls Try.prog 44 #[s.val, .int .i64 t] w fun e w' => e = .returned (.tuple #[.agg #[.int .i64 0, .int .i64 0, .int .i64 0], .int .i64 2]) ∧ Below w.heap.size w w' := by
  have hc := ref02_calls s
  cases ho : s.ok
  · rw [Scr.code_no ho] at hc
    have HC := Lib.hid hc; clear hc h ho
    unfold Scr.val Scr.vals at *
    go_enter Try.func44, Try.ntmps44
    go_wp2_with fail
    refine (HC.out _).mono ?_; rintro e W ⟨rfl, hb⟩
    have B1 := Kit.kept hb (Kit.blk2b _ _ _)
    have hB := Kit.then_ (Kit.below2 _ _ _) hb
    clear hb
    have e0 : W.cell? ⟨w.heap.size + 1, 0, none⟩ = some (.int .i64 0) := Kit.cell B1 0 _ rfl
    have f0 := Kit.frz B1 0
    have e1 : W.cell? ⟨w.heap.size + 1, 1, none⟩ = some (.int .i64 0) := Kit.cell B1 1 _ rfl
    have f1 := Kit.frz B1 1
    have e2 : W.cell? ⟨w.heap.size + 1, 2, none⟩ = some (.int .i64 0) := Kit.cell B1 2 _ rfl
    have f2 := Kit.frz B1 2
    have HB := Lib.hid hB; have HX := Lib.hid B1; clear hB B1
    go_wp2_with fail
    exact bodyPost_ret (Kit.res_ct rfl (w.heap.size + 1) rfl (show (((W.setCell _ _).setCell _ _).setCell _ _).heap[w.heap.size + 1]? = _ from Kit.set_ (Kit.set_ (Kit.set_ HX.out 0 _ rfl) 1 _ rfl) 2 _ rfl) Try.underlying67 rfl (by kernel_rfl)) rfl
      ⟨rfl, (((HB.out.setCell (by simp) _).setCell (by simp) _).setCell (by simp) _)⟩
  · rw [Scr.code_yes ho] at hc
    have hm := rmay_calls t
    rw [show mayB t = false by
      have ht : t < 0 ∨ 1099511627776 < t := by rcases h with h | h; · rw [ho] at h; cases h
                                                · exact h
      unfold mayB
      rcases ht with ht | ht
      · rw [decide_eq_false (show ¬ 0 ≤ t by omega), Bool.false_and]
      · rw [decide_eq_false (show ¬ t ≤ 1099511627776 by omega), Bool.and_false]] at hm
    have HC := Lib.hid hc; have HM := Lib.hid hm; clear hc hm h ho
    unfold Scr.val Scr.vals at *
    go_enter Try.func44, Try.ntmps44
    go_wp2_with fail
    refine (HC.out _).mono ?_; rintro e W0 ⟨rfl, hb⟩
    have B0 := Kit.kept hb (Kit.blk2b _ _ _)
    have hB0 := Kit.then_ (Kit.below2 _ _ _) hb
    clear hb
    go_wp2_with fail
    refine (HM.out _).mono ?_; rintro e W ⟨rfl, hb⟩
    have B1 := Kit.kept hb B0
    have hB := Kit.then_ hB0 hb
    clear hb B0 hB0
    have e0 : W.cell? ⟨w.heap.size + 1, 0, none⟩ = some (.int .i64 0) := Kit.cell B1 0 _ rfl
    have f0 := Kit.frz B1 0
    have e1 : W.cell? ⟨w.heap.size + 1, 1, none⟩ = some (.int .i64 0) := Kit.cell B1 1 _ rfl
    have f1 := Kit.frz B1 1
    have e2 : W.cell? ⟨w.heap.size + 1, 2, none⟩ = some (.int .i64 0) := Kit.cell B1 2 _ rfl
    have f2 := Kit.frz B1 2
    have HB := Lib.hid hB; have HX := Lib.hid B1; clear hB B1
    go_wp2_with fail
    exact bodyPost_ret (Kit.res_ct rfl (w.heap.size + 1) rfl (show (((W.setCell _ _).setCell _ _).setCell _ _).heap[w.heap.size + 1]? = _ from Kit.set_ (Kit.set_ (Kit.set_ HX.out 0 _ rfl) 1 _ rfl) 2 _ rfl) Try.underlying67 rfl (by kernel_rfl)) rfl
      ⟨rfl, (((HB.out.setCell (by simp) _).setCell (by simp) _).setCell (by simp) _)⟩

end Go.Proofs.YthbbbmomlehimaaR.Ts
