import Derived.Test.YthbbbmomlehimaaRLkB
set_option linter.unusedVariables false
namespace Go.Proofs.YthbbbmomlehimaaR.Lk
open Go.RowKit
theorem blk_drew {w : World} {k : Nat} {o : Option Obj} (h : w.heap[k]? = o) : w.drew.heap[k]? = o := h
theorem below_drew {B : Nat} {a w : World} (h : Below B a w) : Below B a w.drew := ⟨h.os, h.tape, h.output, h.size, h.block⟩

set_option maxRecDepth 100000 in
theorem send_bad {w : World} {g r n fr c : Nat} {ring : Nat → Mg} {mark : Int} {ended : Bool} (m : Mg) (h : LkRaw w g r n fr c ring mark ended) (hk : chk m = false) :
    Calls Try.prog 17 #[.pointer (some ⟨g, 0, none⟩), m.val] w fun e w' => e = .returned (.int .i64 2) ∧ Below w.heap.size w w' := by
  have hck := check_calls m
  rw [show chkE m = 2 by simp [chkE, hk]] at hck
  have HC := Lib.hid hck; clear hck hk
  have H := Lib.hid h
  have n1 := h.n1; have n2 := h.n2; have f1 := h.f1; have gl := h.gl; have rl := h.rl
  clear h
  unfold Mg.val Mg.vals at *
  go_enter Try.func17, Try.ntmps17
  go_wp2_with fail
  have B0 := Lib.hid (Kit.blk1 w (MV m)); have Z0 := Lib.hid (Kit.below1 w (MV m)); unfold MV at B0 Z0
  have H1 := Lib.hid (H.out.kept Z0.out)
  refine (made_calls H1.out).mono ?_; rintro e w' ⟨rfl, rfl⟩
  go_wp2_with fail
  refine (HC.out _).mono ?_; rintro e W ⟨rfl, hb⟩
  have B1 := Lib.hid (Kit.kept hb B0.out)
  have H2 := Lib.hid (H1.out.kept hb)
  have Z1 := Lib.hid (Kit.then_ Z0.out hb); clear hb
  have a0 : W.cell? ⟨g, 0, none⟩ = some (.slice (some ⟨r, 0, none⟩) n n) := Kit.cell H2.out.blk 0 _ rfl
  have a2 : W.cell? ⟨g, 2, none⟩ = some (.int .i64 c) := Kit.cell H2.out.blk 2 _ rfl
  have a3 : W.cell? ⟨g, 3, none⟩ = some (.int .i64 mark) := Kit.cell H2.out.blk 3 _ rfl
  have a4 : W.cell? ⟨g, 4, none⟩ = some (.bool ended) := Kit.cell H2.out.blk 4 _ rfl
  have b1 : W.cell? ⟨w.heap.size, 1, none⟩ = some (.int .i64 m.time) := Kit.cell B1.out 1 _ rfl
  go_wp2_with fail
  go_ret
  exact ⟨rfl, by first | exact Z1.out | exact below_drewN Z1.out _ | exact below_drewN (below_drewN Z1.out _) _⟩

set_option maxRecDepth 100000 in
theorem send_ended {w : World} {g r n fr c : Nat} {ring : Nat → Mg} {mark : Int} (m : Mg) (h : LkRaw w g r n fr c ring mark true) (hk : chk m = true) :
    Calls Try.prog 17 #[.pointer (some ⟨g, 0, none⟩), m.val] w fun e w' => e = .returned (.int .i64 10) ∧ Below w.heap.size w w' := by
  have hck := check_calls m
  rw [show chkE m = 0 by simp [chkE, hk]] at hck
  have HC := Lib.hid hck; clear hck hk
  have H := Lib.hid h
  have n1 := h.n1; have n2 := h.n2; have f1 := h.f1; have gl := h.gl; have rl := h.rl
  clear h
  unfold Mg.val Mg.vals at *
  go_enter Try.func17, Try.ntmps17
  go_wp2_with fail
  have B0 := Lib.hid (Kit.blk1 w (MV m)); have Z0 := Lib.hid (Kit.below1 w (MV m)); unfold MV at B0 Z0
  have H1 := Lib.hid (H.out.kept Z0.out)
  refine (made_calls H1.out).mono ?_; rintro e w' ⟨rfl, rfl⟩
  go_wp2_with fail
  refine (HC.out _).mono ?_; rintro e W ⟨rfl, hb⟩
  have B1 := Lib.hid (Kit.kept hb B0.out)
  have H2 := Lib.hid (H1.out.kept hb)
  have Z1 := Lib.hid (Kit.then_ Z0.out hb); clear hb
  have a0 : W.cell? ⟨g, 0, none⟩ = some (.slice (some ⟨r, 0, none⟩) n n) := Kit.cell H2.out.blk 0 _ rfl
  have a2 : W.cell? ⟨g, 2, none⟩ = some (.int .i64 c) := Kit.cell H2.out.blk 2 _ rfl
  have a3 : W.cell? ⟨g, 3, none⟩ = some (.int .i64 mark) := Kit.cell H2.out.blk 3 _ rfl
  have a4 : W.cell? ⟨g, 4, none⟩ = some (.bool true) := Kit.cell H2.out.blk 4 _ rfl
  have b1 : W.cell? ⟨w.heap.size, 1, none⟩ = some (.int .i64 m.time) := Kit.cell B1.out 1 _ rfl
  go_wp2_with fail
  go_ret
  exact ⟨rfl, by first | exact Z1.out | exact below_drewN Z1.out _ | exact below_drewN (below_drewN Z1.out _) _⟩

set_option maxRecDepth 100000 in
theorem send_late {w : World} {g r n fr c : Nat} {ring : Nat → Mg} {mark : Int} (m : Mg) (h : LkRaw w g r n fr c ring mark false) (hk : chk m = true) (hm : m.time < mark) :
    Calls Try.prog 17 #[.pointer (some ⟨g, 0, none⟩), m.val] w fun e w' => e = .returned (.int .i64 8) ∧ Below w.heap.size w w' := by
  have hck := check_calls m
  rw [show chkE m = 0 by simp [chkE, hk]] at hck
  have HC := Lib.hid hck; clear hck hk
  have H := Lib.hid h
  have n1 := h.n1; have n2 := h.n2; have f1 := h.f1; have gl := h.gl; have rl := h.rl
  clear h
  have d1 : decide (m.time < mark) = true := decide_eq_true hm
  unfold Mg.val Mg.vals at *
  go_enter Try.func17, Try.ntmps17
  go_wp2_with fail
  have B0 := Lib.hid (Kit.blk1 w (MV m)); have Z0 := Lib.hid (Kit.below1 w (MV m)); unfold MV at B0 Z0
  have H1 := Lib.hid (H.out.kept Z0.out)
  refine (made_calls H1.out).mono ?_; rintro e w' ⟨rfl, rfl⟩
  go_wp2_with fail
  refine (HC.out _).mono ?_; rintro e W ⟨rfl, hb⟩
  have B1 := Lib.hid (Kit.kept hb B0.out)
  have H2 := Lib.hid (H1.out.kept hb)
  have Z1 := Lib.hid (Kit.then_ Z0.out hb); clear hb
  have a0 : W.cell? ⟨g, 0, none⟩ = some (.slice (some ⟨r, 0, none⟩) n n) := Kit.cell H2.out.blk 0 _ rfl
  have a2 : W.cell? ⟨g, 2, none⟩ = some (.int .i64 c) := Kit.cell H2.out.blk 2 _ rfl
  have a3 : W.cell? ⟨g, 3, none⟩ = some (.int .i64 mark) := Kit.cell H2.out.blk 3 _ rfl
  have a4 : W.cell? ⟨g, 4, none⟩ = some (.bool false) := Kit.cell H2.out.blk 4 _ rfl
  have b1 : W.cell? ⟨w.heap.size, 1, none⟩ = some (.int .i64 m.time) := Kit.cell B1.out 1 _ rfl
  go_wp2_with fail
  go_quiet (fail)
  go_wp2_with fail
  go_ret
  exact ⟨rfl, by first | exact Z1.out | exact below_drewN Z1.out _ | exact below_drewN (below_drewN Z1.out _) _⟩

set_option maxRecDepth 100000 in
theorem send_full {w : World} {g r n fr c : Nat} {ring : Nat → Mg} {mark : Int} (m : Mg) (h : LkRaw w g r n fr c ring mark false) (hk : chk m = true) (hm : mark ≤ m.time) (hc : c = n) :
    Calls Try.prog 17 #[.pointer (some ⟨g, 0, none⟩), m.val] w fun e w' => e = .returned (.int .i64 9) ∧ Below w.heap.size w w' := by
  have hck := check_calls m
  rw [show chkE m = 0 by simp [chkE, hk]] at hck
  have HC := Lib.hid hck; clear hck hk
  have H := Lib.hid h
  have n1 := h.n1; have n2 := h.n2; have f1 := h.f1; have gl := h.gl; have rl := h.rl
  clear h
  have d1 : decide (m.time < mark) = false := decide_eq_false (by omega)
  have d2 : ((c : Int) == n) = true := by rw [hc]; simp
  clear hc
  unfold Mg.val Mg.vals at *
  go_enter Try.func17, Try.ntmps17
  go_wp2_with fail
  have B0 := Lib.hid (Kit.blk1 w (MV m)); have Z0 := Lib.hid (Kit.below1 w (MV m)); unfold MV at B0 Z0
  have H1 := Lib.hid (H.out.kept Z0.out)
  refine (made_calls H1.out).mono ?_; rintro e w' ⟨rfl, rfl⟩
  go_wp2_with fail
  refine (HC.out _).mono ?_; rintro e W ⟨rfl, hb⟩
  have B1 := Lib.hid (Kit.kept hb B0.out)
  have H2 := Lib.hid (H1.out.kept hb)
  have Z1 := Lib.hid (Kit.then_ Z0.out hb); clear hb
  have a0 : W.cell? ⟨g, 0, none⟩ = some (.slice (some ⟨r, 0, none⟩) n n) := Kit.cell H2.out.blk 0 _ rfl
  have a2 : W.cell? ⟨g, 2, none⟩ = some (.int .i64 c) := Kit.cell H2.out.blk 2 _ rfl
  have a3 : W.cell? ⟨g, 3, none⟩ = some (.int .i64 mark) := Kit.cell H2.out.blk 3 _ rfl
  have a4 : W.cell? ⟨g, 4, none⟩ = some (.bool false) := Kit.cell H2.out.blk 4 _ rfl
  have b1 : W.cell? ⟨w.heap.size, 1, none⟩ = some (.int .i64 m.time) := Kit.cell B1.out 1 _ rfl
  go_wp2_with fail
  go_quiet (fail)
  go_wp2_with fail
  go_quiet (fail)
  go_wp2_with fail
  go_ret
  exact ⟨rfl, by first | exact Z1.out | exact below_drewN Z1.out _ | exact below_drewN (below_drewN Z1.out _) _⟩

theorem first_no {w : World} {g r n fr : Nat} {ring : Nat → Mg} {mark : Int} {ended : Bool} (h : LkRaw w g r n fr 0 ring mark ended) :
    Calls Try.prog 84 #[.pointer (some ⟨g, 0, none⟩)] w fun e w' => e = .returned (.tuple #[.agg #[.int .i64 0, .int .i64 0, .int .i64 0, .int .u8 0, .int .i64 0, .int .i64 0, .int .u8 0], .bool false]) ∧ Below w.heap.size w w' := by
  have H := Lib.hid h; clear h
  go_enter Try.func84, Try.ntmps84
  go_wp2_with fail
  have Z0 := Lib.hid (Kit.below1 w (.cells #[.int .i64 0, .int .i64 0, .int .i64 0, .int .u8 0, .int .i64 0, .int .i64 0, .int .u8 0] 33 (0, 0)))
  have H1 := Lib.hid (H.out.kept Z0.out)
  have B0 := Lib.hid (Kit.blk1 w (.cells #[.int .i64 0, .int .i64 0, .int .i64 0, .int .u8 0, .int .i64 0, .int .i64 0, .int .u8 0] 33 (0, 0)))
  refine (made_calls H1.out).mono ?_; rintro e w' ⟨rfl, rfl⟩
  have a2 := Kit.cell H1.out.blk 2 _ rfl
  go_wp2_with fail
  exact bodyPost_ret (Kit.res_ct rfl w.heap.size rfl B0.out Try.underlying33 rfl (by kernel_rfl)) rfl ⟨rfl, Z0.out⟩

set_option maxRecDepth 100000 in
theorem first_yes {w : World} {g r n fr c : Nat} {ring : Nat → Mg} {mark : Int} {ended : Bool} (h : LkRaw w g r n fr c ring mark ended) (hc : 0 < c) :
    Calls Try.prog 84 #[.pointer (some ⟨g, 0, none⟩)] w fun e w' => e = .returned (.tuple #[(ring fr).val, .bool true]) ∧ Below w.heap.size w w' := by
  have H := Lib.hid h
  have n1 := h.n1; have n2 := h.n2; have f1 := h.f1; have gl := h.gl; have rl := h.rl
  clear h
  unfold Mg.val Mg.vals
  have dc : ((c : Int) == 0) = false := beq_eq_false_iff_ne.2 (by omega)
  go_enter Try.func84, Try.ntmps84
  go_wp2_with fail
  have Z0 := Lib.hid (Kit.below1 w (.cells #[.int .i64 0, .int .i64 0, .int .i64 0, .int .u8 0, .int .i64 0, .int .i64 0, .int .u8 0] 33 (0, 0)))
  have H1 := Lib.hid (H.out.kept Z0.out)
  have B0 := Lib.hid (Kit.blk1 w (.cells #[.int .i64 0, .int .i64 0, .int .i64 0, .int .u8 0, .int .i64 0, .int .i64 0, .int .u8 0] 33 (0, 0)))
  have hz : (w.alloc (.cells #[.int .i64 0, .int .i64 0, .int .i64 0, .int .u8 0, .int .i64 0, .int .i64 0, .int .u8 0] 33 (0, 0))).heap.size = w.heap.size + 1 := by simp
  generalize w.alloc (.cells #[.int .i64 0, .int .i64 0, .int .i64 0, .int .u8 0, .int .i64 0, .int .i64 0, .int .u8 0] 33 (0, 0)) = W at *
  refine (made_calls H1.out).mono ?_; rintro e w' ⟨rfl, rfl⟩
  have a0 : W.cell? ⟨g, 0, none⟩ = some (.slice (some ⟨r, 0, none⟩) n n) := Kit.cell H1.out.blk 0 _ rfl
  have a1 : W.cell? ⟨g, 1, none⟩ = some (.int .i64 fr) := Kit.cell H1.out.blk 1 _ rfl
  have a2 : W.cell? ⟨g, 2, none⟩ = some (.int .i64 c) := Kit.cell H1.out.blk 2 _ rfl
  have e0 : W.cell? ⟨r, fr * 7, none⟩ = some (.int .i64 (ring fr).kind) := H1.out.cell fr 0 f1 (by decide)
  have v0 : W.cell? ⟨w.heap.size, 0, none⟩ = some (.int .i64 0) := Kit.cell B0.out 0 _ rfl
  have e1 : W.cell? ⟨r, fr * 7 + 1, none⟩ = some (.int .i64 (ring fr).time) := H1.out.cell fr 1 f1 (by decide)
  have v1 : W.cell? ⟨w.heap.size, 1, none⟩ = some (.int .i64 0) := Kit.cell B0.out 1 _ rfl
  have e2 : W.cell? ⟨r, fr * 7 + 2, none⟩ = some (.int .i64 (ring fr).cls) := H1.out.cell fr 2 f1 (by decide)
  have v2 : W.cell? ⟨w.heap.size, 2, none⟩ = some (.int .i64 0) := Kit.cell B0.out 2 _ rfl
  have e3 : W.cell? ⟨r, fr * 7 + 3, none⟩ = some (.int .u8 (ring fr).high) := H1.out.cell fr 3 f1 (by decide)
  have v3 : W.cell? ⟨w.heap.size, 3, none⟩ = some (.int .u8 0) := Kit.cell B0.out 3 _ rfl
  have e4 : W.cell? ⟨r, fr * 7 + 4, none⟩ = some (.int .i64 (ring fr).bank) := H1.out.cell fr 4 f1 (by decide)
  have v4 : W.cell? ⟨w.heap.size, 4, none⟩ = some (.int .i64 0) := Kit.cell B0.out 4 _ rfl
  have e5 : W.cell? ⟨r, fr * 7 + 5, none⟩ = some (.int .i64 (ring fr).place) := H1.out.cell fr 5 f1 (by decide)
  have v5 : W.cell? ⟨w.heap.size, 5, none⟩ = some (.int .i64 0) := Kit.cell B0.out 5 _ rfl
  have e6 : W.cell? ⟨r, fr * 7 + 6, none⟩ = some (.int .u8 (ring fr).value) := H1.out.cell fr 6 f1 (by decide)
  have v6 : W.cell? ⟨w.heap.size, 6, none⟩ = some (.int .u8 0) := Kit.cell B0.out 6 _ rfl
  have ff := fun o => Kit.frz B0.out o
  have q1 : (0 : Int) ≤ fr := by omega
  have q2 : (fr : Int) < n := by omega
  clear hz
  go_wp2_with fail
  go_region
  go_wp2_with fail
  have hv := (Kit.set_ (Kit.set_ (Kit.set_ (Kit.set_ (Kit.set_ (Kit.set_ (Kit.set_ B0.out 0 (.int .i64 (ring fr).kind) rfl) 1 (.int .i64 (ring fr).time) rfl) 2 (.int .i64 (ring fr).cls) rfl) 3 (.int .u8 (ring fr).high) rfl) 4 (.int .i64 (ring fr).bank) rfl) 5 (.int .i64 (ring fr).place) rfl) 6 (.int .u8 (ring fr).value) rfl)
  have hz9 : Below w.heap.size w (((((((W.setCell ⟨w.heap.size, 0, none⟩ (.int .i64 (ring fr).kind)).setCell ⟨w.heap.size, 1, none⟩ (.int .i64 (ring fr).time)).setCell ⟨w.heap.size, 2, none⟩ (.int .i64 (ring fr).cls)).setCell ⟨w.heap.size, 3, none⟩ (.int .u8 (ring fr).high)).setCell ⟨w.heap.size, 4, none⟩ (.int .i64 (ring fr).bank)).setCell ⟨w.heap.size, 5, none⟩ (.int .i64 (ring fr).place)).setCell ⟨w.heap.size, 6, none⟩ (.int .u8 (ring fr).value)) := (((((((Z0.out.setCell (Nat.le_refl _) _).setCell (Nat.le_refl _) _).setCell (Nat.le_refl _) _).setCell (Nat.le_refl _) _).setCell (Nat.le_refl _) _).setCell (Nat.le_refl _) _).setCell (Nat.le_refl _) _)
  generalize hW : World.drew _ = w9
  have hv9 := blk_drew hv
  have Z9 := below_drew hz9
  rw [hW] at hv9 Z9
  have hv9 := Lib.hid hv9; have Z9 := Lib.hid Z9
  clear hW hv hz9
  exact bodyPost_ret (Kit.res_ct rfl w.heap.size rfl hv9.out Try.underlying33 rfl (by kernel_rfl)) rfl ⟨rfl, Z9.out⟩
end Go.Proofs.YthbbbmomlehimaaR.Lk
