import Derived.Test.YthbbbmomlehimaaRTsC
set_option linter.unusedVariables false
namespace Go.Proofs.YthbbbmomlehimaaR.Ts
open Go.RowKit

theorem spot_no (s : Scr) (t : Int) (h : s.ok = false ∨ t < 0 ∨ 1099511627776 < t) (w : World) :
    Calls Try.prog 41 #[s.val, .int .i64 t] w fun e w' => e = .returned (.tuple #[.agg #[.int .i64 0, .int .i64 0, .int .i64 0], .int .i64 2]) ∧ Below w.heap.size w w' := by
  have hl := length_calls s
  have HL := Lib.hid hl; clear hl
  cases ho : s.ok
  · have hl0 : s.len = 0 := Scr.len_no ho
    clear ho h
    unfold Scr.val Scr.vals at *
    go_enter Try.func41, Try.ntmps41
    go_wp2_with fail
    refine (HL.out _).mono ?_; rintro e w' ⟨rfl, hb⟩
    rw [hl0]; clear hl0
    have B1 := Kit.kept hb (Kit.blk2b _ _ _)
    have hB := Kit.then_ (Kit.below2 _ _ _) hb
    have hz := hb.size; simp at hz
    clear hb
    have k0 : w'.cell? ⟨w.heap.size + 1, 0, none⟩ = some (.int .i64 0) := Kit.cell B1 0 _ rfl
    have k1 : w'.cell? ⟨w.heap.size + 1, 1, none⟩ = some (.int .i64 0) := Kit.cell B1 1 _ rfl
    have k2 : w'.cell? ⟨w.heap.size + 1, 2, none⟩ = some (.int .i64 0) := Kit.cell B1 2 _ rfl
    have f0 := Kit.frz B1 0
    have f1 := Kit.frz B1 1
    have f2 := Kit.frz B1 2
    have HB1 := Lib.hid B1; clear B1
    go_wp2_with fail
    exact bodyPost_ret (Kit.res_ct rfl (w.heap.size + 1) rfl (show (((w'.setCell _ _).setCell _ _).setCell _ _).heap[w.heap.size + 1]? = _ from Kit.set_ (Kit.set_ (Kit.set_ HB1.out 0 _ rfl) 1 _ rfl) 2 _ rfl) Try.underlying67 rfl (by kernel_rfl)) rfl
      ⟨rfl, (((hB.setCell (by simp) _).setCell (by simp) _).setCell (by simp) _)⟩
  · have hl0 : s.len = s.lines * s.columns := Scr.len_yes ho
    have hn1 := (s.fits ho).n1
    have hn2 := (s.fits ho).n2
    rw [ho] at h
    have ht : t < 0 ∨ 1099511627776 < t := by simpa using h
    clear ho h
    unfold Scr.val Scr.vals at *
    go_enter Try.func41, Try.ntmps41
    go_wp2_with fail
    refine (HL.out _).mono ?_; rintro e w' ⟨rfl, hb⟩
    rw [hl0]; clear hl0
    have B1 := Kit.kept hb (Kit.blk2b _ _ _)
    have hB := Kit.then_ (Kit.below2 _ _ _) hb
    have hz := hb.size; simp at hz
    clear hb
    have k0 : w'.cell? ⟨w.heap.size + 1, 0, none⟩ = some (.int .i64 0) := Kit.cell B1 0 _ rfl
    have k1 : w'.cell? ⟨w.heap.size + 1, 1, none⟩ = some (.int .i64 0) := Kit.cell B1 1 _ rfl
    have k2 : w'.cell? ⟨w.heap.size + 1, 2, none⟩ = some (.int .i64 0) := Kit.cell B1 2 _ rfl
    have f0 := Kit.frz B1 0
    have f1 := Kit.frz B1 1
    have f2 := Kit.frz B1 2
    have HB1 := Lib.hid B1; clear B1
    have hne : (s.lines * s.columns == 0) = false := beq_eq_false_iff_ne.2 (by omega)
    have HT := Lib.hid ht; clear ht
    go_wp2_with fail
    refine (may_no t HT.out _).mono ?_; rintro e w' ⟨rfl, rfl⟩
    go_wp2_with fail
    exact bodyPost_ret (Kit.res_ct rfl (w.heap.size + 1) rfl (show (((w'.setCell _ _).setCell _ _).setCell _ _).heap[w.heap.size + 1]? = _ from Kit.set_ (Kit.set_ (Kit.set_ HB1.out 0 _ rfl) 1 _ rfl) 2 _ rfl) Try.underlying67 rfl (by kernel_rfl)) rfl
      ⟨rfl, (((hB.setCell (by simp) _).setCell (by simp) _).setCell (by simp) _)⟩
end Go.Proofs.YthbbbmomlehimaaR.Ts
