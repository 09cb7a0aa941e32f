import Derived.Test.YthbbbmomlehimaaRTsH
set_option linter.unusedVariables false
namespace Go.Proofs.YthbbbmomlehimaaR.Ts
open Go.RowKit Oc

set_option maxRecDepth 100000 in
theorem pulses000 (s : Scr) (f t : Int) (w : World) (h : s.ok = true) (hf : f ≤ 0) (ht : t ≤ 1099511627777) (hc : t ≤ 0) :
    Calls Try.prog 54 #[s.val, .int .i64 f, .int .i64 t] w fun e w' => e = .returned (.int .i64 0) ∧ Below w.heap.size w w' := by
  have hfi := s.fits h
  have hl := length_calls s
  rw [Scr.len_yes h] at hl
  clear h
  obtain ⟨_, _, c1, c2, _, _, _, _, _, _, _, _, _, p1, p2, _, _, _, _, _, n1, n2⟩ := hfi
  generalize hN : s.lines * s.columns = N at *
  have dn : (N == 0) = false := beq_eq_false_iff_ne.2 (by omega)
  have HL := Lib.hid hl; clear hl
  have dft : decide (t ≤ 0) = true := decide_eq_true hc
  unfold Scr.val Scr.vals at *
  go_enter Try.func54, Try.ntmps54
  go_wp2_with fail
  refine (HL.out _).mono ?_; rintro e W ⟨rfl, hb⟩
  have B0 := Kit.kept hb (Kit.blk1 _ _)
  have hB := Kit.then_ (Kit.below1 _ _) hb
  have hz := hb.size; simp at hz
  clear hb
  clear B0
  have HB := Lib.hid hB; clear hB
  go_wp2_with fail
  go_ret
  exact ⟨rfl, HB.out.alloc (by omega) _⟩

set_option maxRecDepth 100000 in
theorem pulses001 (s : Scr) (f t : Int) (w : World) (h : s.ok = true) (hf : f ≤ 0) (ht : t ≤ 1099511627777) (hc : 0 < t) :
    Calls Try.prog 54 #[s.val, .int .i64 f, .int .i64 t] w fun e w' => e = .returned (.int .i64 (uptoV (s.lines * s.columns) s.pulse t - uptoV (s.lines * s.columns) s.pulse 0)) ∧ Below w.heap.size w w' := by
  have hfi := s.fits h
  have hl := length_calls s
  rw [Scr.len_yes h] at hl
  clear h
  obtain ⟨_, _, c1, c2, _, _, _, _, _, _, _, _, _, p1, p2, _, _, _, _, _, n1, n2⟩ := hfi
  generalize hN : s.lines * s.columns = N at *
  have dn : (N == 0) = false := beq_eq_false_iff_ne.2 (by omega)
  have HL := Lib.hid hl; clear hl
  have dft : decide (t ≤ 0) = false := decide_eq_false (by omega)
  have u1 := uptoV_bounds N s.pulse t (by omega) (by omega) n1 p1 p2
  have u2 := uptoV_bounds N s.pulse 0 (by omega) (by omega) n1 p1 p2
  have hu : ∀ w g k, w.heap[g]? = some (.cells s.vals 40 (0, 0)) → w.cell? ⟨k, 0, none⟩ = some (.int .i64 N) → ∀ x, 0 ≤ x → x ≤ 1099511627777 → Calls Try.prog 117 #[.int .i64 x, .pointer (some ⟨k, 0, none⟩), .pointer (some ⟨g, 0, none⟩)] w fun e w' => e = .returned (.int .i64 (uptoV N s.pulse x)) ∧ Below w.heap.size w w' := fun w g k hg hk x h0 h1 => upto_calls s N x g k w hg hk h0 h1 n1 n2 p1 p2
  have HU := Lib.hid hu; clear hu
  generalize hU1 : uptoV N s.pulse t = U1 at *
  generalize hU2 : uptoV N s.pulse 0 = U2 at *
  have HU1 := Lib.hid hU1; have HU2 := Lib.hid hU2; clear hU1 hU2
  unfold Scr.val Scr.vals at *
  go_enter Try.func54, Try.ntmps54
  go_wp2_with fail
  refine (HL.out _).mono ?_; rintro e W ⟨rfl, hb⟩
  have B0 := Kit.kept hb (Kit.blk1 _ _)
  have hB := Kit.then_ (Kit.below1 _ _) hb
  have hz := hb.size; simp at hz
  clear hb
  have g0 := Kit.blk_old B0 (.cells #[.int .i64 N] 2 (0, 0))
  have k0 : (W.alloc (.cells #[.int .i64 N] 2 (0, 0))).cell? ⟨W.heap.size, 0, none⟩ = some (.int .i64 N) := Kit.cell (Kit.blk1 W (.cells #[.int .i64 N] 2 (0, 0))) 0 _ rfl
  have hz2 : W.heap.size + 1 = (W.alloc (.cells #[.int .i64 N] 2 (0, 0))).heap.size := by simp
  have hB2 := Lib.hid (hB.alloc (by omega) (.cells #[.int .i64 N] 2 (0, 0))); clear B0
  have G0 := Lib.hid g0; have K0 := Lib.hid k0; clear g0 k0 hB
  go_wp2_with fail
  refine (HU.out _ _ _ G0.out K0.out t (by omega) (by omega)).mono ?_; rintro e W1 ⟨rfl, hb1⟩
  have G1 := Lib.hid (Kit.kept hb1 G0.out)
  have K1 := Lib.hid ((hb1.cell (p := ⟨W.heap.size, 0, none⟩) (by simp)).trans K0.out)
  have HB3 := Lib.hid (hB2.out.trans (hb1.mono (by simp; omega))); clear hb1
  rw [HU1.out]
  go_wp2_with fail
  refine (HU.out _ _ _ G1.out K1.out 0 (by omega) (by omega)).mono ?_; rintro e W2 ⟨rfl, hb2⟩
  have HB4 := Lib.hid (Kit.then_ HB3.out hb2); clear hb2
  rw [HU2.out]
  go_wp2_with fail
  go_ret
  exact ⟨rfl, HB4.out⟩

set_option maxRecDepth 100000 in
theorem pulses011 (s : Scr) (f t : Int) (w : World) (h : s.ok = true) (hf : f ≤ 0) (ht : 1099511627777 < t) (hc : 0 < 1099511627777) :
    Calls Try.prog 54 #[s.val, .int .i64 f, .int .i64 t] w fun e w' => e = .returned (.int .i64 (uptoV (s.lines * s.columns) s.pulse 1099511627777 - uptoV (s.lines * s.columns) s.pulse 0)) ∧ Below w.heap.size w w' := by
  have hfi := s.fits h
  have hl := length_calls s
  rw [Scr.len_yes h] at hl
  clear h
  obtain ⟨_, _, c1, c2, _, _, _, _, _, _, _, _, _, p1, p2, _, _, _, _, _, n1, n2⟩ := hfi
  generalize hN : s.lines * s.columns = N at *
  have dn : (N == 0) = false := beq_eq_false_iff_ne.2 (by omega)
  have HL := Lib.hid hl; clear hl
  have dft : decide (1099511627777 ≤ 0) = false := decide_eq_false (by omega)
  have u1 := uptoV_bounds N s.pulse 1099511627777 (by omega) (by omega) n1 p1 p2
  have u2 := uptoV_bounds N s.pulse 0 (by omega) (by omega) n1 p1 p2
  have hu : ∀ w g k, w.heap[g]? = some (.cells s.vals 40 (0, 0)) → w.cell? ⟨k, 0, none⟩ = some (.int .i64 N) → ∀ x, 0 ≤ x → x ≤ 1099511627777 → Calls Try.prog 117 #[.int .i64 x, .pointer (some ⟨k, 0, none⟩), .pointer (some ⟨g, 0, none⟩)] w fun e w' => e = .returned (.int .i64 (uptoV N s.pulse x)) ∧ Below w.heap.size w w' := fun w g k hg hk x h0 h1 => upto_calls s N x g k w hg hk h0 h1 n1 n2 p1 p2
  have HU := Lib.hid hu; clear hu
  generalize hU1 : uptoV N s.pulse 1099511627777 = U1 at *
  generalize hU2 : uptoV N s.pulse 0 = U2 at *
  have HU1 := Lib.hid hU1; have HU2 := Lib.hid hU2; clear hU1 hU2
  unfold Scr.val Scr.vals at *
  go_enter Try.func54, Try.ntmps54
  go_wp2_with fail
  refine (HL.out _).mono ?_; rintro e W ⟨rfl, hb⟩
  have B0 := Kit.kept hb (Kit.blk1 _ _)
  have hB := Kit.then_ (Kit.below1 _ _) hb
  have hz := hb.size; simp at hz
  clear hb
  have g0 := Kit.blk_old B0 (.cells #[.int .i64 N] 2 (0, 0))
  have k0 : (W.alloc (.cells #[.int .i64 N] 2 (0, 0))).cell? ⟨W.heap.size, 0, none⟩ = some (.int .i64 N) := Kit.cell (Kit.blk1 W (.cells #[.int .i64 N] 2 (0, 0))) 0 _ rfl
  have hz2 : W.heap.size + 1 = (W.alloc (.cells #[.int .i64 N] 2 (0, 0))).heap.size := by simp
  have hB2 := Lib.hid (hB.alloc (by omega) (.cells #[.int .i64 N] 2 (0, 0))); clear B0
  have G0 := Lib.hid g0; have K0 := Lib.hid k0; clear g0 k0 hB
  go_wp2_with fail
  refine (HU.out _ _ _ G0.out K0.out 1099511627777 (by omega) (by omega)).mono ?_; rintro e W1 ⟨rfl, hb1⟩
  have G1 := Lib.hid (Kit.kept hb1 G0.out)
  have K1 := Lib.hid ((hb1.cell (p := ⟨W.heap.size, 0, none⟩) (by simp)).trans K0.out)
  have HB3 := Lib.hid (hB2.out.trans (hb1.mono (by simp; omega))); clear hb1
  rw [HU1.out]
  go_wp2_with fail
  refine (HU.out _ _ _ G1.out K1.out 0 (by omega) (by omega)).mono ?_; rintro e W2 ⟨rfl, hb2⟩
  have HB4 := Lib.hid (Kit.then_ HB3.out hb2); clear hb2
  rw [HU2.out]
  go_wp2_with fail
  go_ret
  exact ⟨rfl, HB4.out⟩

set_option maxRecDepth 100000 in
theorem pulses100 (s : Scr) (f t : Int) (w : World) (h : s.ok = true) (hf : 0 < f) (ht : t ≤ 1099511627777) (hc : t ≤ f) :
    Calls Try.prog 54 #[s.val, .int .i64 f, .int .i64 t] w fun e w' => e = .returned (.int .i64 0) ∧ Below w.heap.size w w' := by
  have hfi := s.fits h
  have hl := length_calls s
  rw [Scr.len_yes h] at hl
  clear h
  obtain ⟨_, _, c1, c2, _, _, _, _, _, _, _, _, _, p1, p2, _, _, _, _, _, n1, n2⟩ := hfi
  generalize hN : s.lines * s.columns = N at *
  have dn : (N == 0) = false := beq_eq_false_iff_ne.2 (by omega)
  have HL := Lib.hid hl; clear hl
  have dft : decide (t ≤ f) = true := decide_eq_true hc
  unfold Scr.val Scr.vals at *
  go_enter Try.func54, Try.ntmps54
  go_wp2_with fail
  refine (HL.out _).mono ?_; rintro e W ⟨rfl, hb⟩
  have B0 := Kit.kept hb (Kit.blk1 _ _)
  have hB := Kit.then_ (Kit.below1 _ _) hb
  have hz := hb.size; simp at hz
  clear hb
  clear B0
  have HB := Lib.hid hB; clear hB
  go_wp2_with fail
  go_ret
  exact ⟨rfl, HB.out.alloc (by omega) _⟩

set_option maxRecDepth 100000 in
theorem pulses101 (s : Scr) (f t : Int) (w : World) (h : s.ok = true) (hf : 0 < f) (ht : t ≤ 1099511627777) (hc : f < t) :
    Calls Try.prog 54 #[s.val, .int .i64 f, .int .i64 t] w fun e w' => e = .returned (.int .i64 (uptoV (s.lines * s.columns) s.pulse t - uptoV (s.lines * s.columns) s.pulse f)) ∧ Below w.heap.size w w' := by
  have hfi := s.fits h
  have hl := length_calls s
  rw [Scr.len_yes h] at hl
  clear h
  obtain ⟨_, _, c1, c2, _, _, _, _, _, _, _, _, _, p1, p2, _, _, _, _, _, n1, n2⟩ := hfi
  generalize hN : s.lines * s.columns = N at *
  have dn : (N == 0) = false := beq_eq_false_iff_ne.2 (by omega)
  have HL := Lib.hid hl; clear hl
  have dft : decide (t ≤ f) = false := decide_eq_false (by omega)
  have u1 := uptoV_bounds N s.pulse t (by omega) (by omega) n1 p1 p2
  have u2 := uptoV_bounds N s.pulse f (by omega) (by omega) n1 p1 p2
  have hu : ∀ w g k, w.heap[g]? = some (.cells s.vals 40 (0, 0)) → w.cell? ⟨k, 0, none⟩ = some (.int .i64 N) → ∀ x, 0 ≤ x → x ≤ 1099511627777 → Calls Try.prog 117 #[.int .i64 x, .pointer (some ⟨k, 0, none⟩), .pointer (some ⟨g, 0, none⟩)] w fun e w' => e = .returned (.int .i64 (uptoV N s.pulse x)) ∧ Below w.heap.size w w' := fun w g k hg hk x h0 h1 => upto_calls s N x g k w hg hk h0 h1 n1 n2 p1 p2
  have HU := Lib.hid hu; clear hu
  generalize hU1 : uptoV N s.pulse t = U1 at *
  generalize hU2 : uptoV N s.pulse f = U2 at *
  have HU1 := Lib.hid hU1; have HU2 := Lib.hid hU2; clear hU1 hU2
  unfold Scr.val Scr.vals at *
  go_enter Try.func54, Try.ntmps54
  go_wp2_with fail
  refine (HL.out _).mono ?_; rintro e W ⟨rfl, hb⟩
  have B0 := Kit.kept hb (Kit.blk1 _ _)
  have hB := Kit.then_ (Kit.below1 _ _) hb
  have hz := hb.size; simp at hz
  clear hb
  have g0 := Kit.blk_old B0 (.cells #[.int .i64 N] 2 (0, 0))
  have k0 : (W.alloc (.cells #[.int .i64 N] 2 (0, 0))).cell? ⟨W.heap.size, 0, none⟩ = some (.int .i64 N) := Kit.cell (Kit.blk1 W (.cells #[.int .i64 N] 2 (0, 0))) 0 _ rfl
  have hz2 : W.heap.size + 1 = (W.alloc (.cells #[.int .i64 N] 2 (0, 0))).heap.size := by simp
  have hB2 := Lib.hid (hB.alloc (by omega) (.cells #[.int .i64 N] 2 (0, 0))); clear B0
  have G0 := Lib.hid g0; have K0 := Lib.hid k0; clear g0 k0 hB
  go_wp2_with fail
  refine (HU.out _ _ _ G0.out K0.out t (by omega) (by omega)).mono ?_; rintro e W1 ⟨rfl, hb1⟩
  have G1 := Lib.hid (Kit.kept hb1 G0.out)
  have K1 := Lib.hid ((hb1.cell (p := ⟨W.heap.size, 0, none⟩) (by simp)).trans K0.out)
  have HB3 := Lib.hid (hB2.out.trans (hb1.mono (by simp; omega))); clear hb1
  rw [HU1.out]
  go_wp2_with fail
  refine (HU.out _ _ _ G1.out K1.out f (by omega) (by omega)).mono ?_; rintro e W2 ⟨rfl, hb2⟩
  have HB4 := Lib.hid (Kit.then_ HB3.out hb2); clear hb2
  rw [HU2.out]
  go_wp2_with fail
  go_ret
  exact ⟨rfl, HB4.out⟩

set_option maxRecDepth 100000 in
theorem pulses110 (s : Scr) (f t : Int) (w : World) (h : s.ok = true) (hf : 0 < f) (ht : 1099511627777 < t) (hc : 1099511627777 ≤ f) :
    Calls Try.prog 54 #[s.val, .int .i64 f, .int .i64 t] w fun e w' => e = .returned (.int .i64 0) ∧ Below w.heap.size w w' := by
  have hfi := s.fits h
  have hl := length_calls s
  rw [Scr.len_yes h] at hl
  clear h
  obtain ⟨_, _, c1, c2, _, _, _, _, _, _, _, _, _, p1, p2, _, _, _, _, _, n1, n2⟩ := hfi
  generalize hN : s.lines * s.columns = N at *
  have dn : (N == 0) = false := beq_eq_false_iff_ne.2 (by omega)
  have HL := Lib.hid hl; clear hl
  have dft : decide (1099511627777 ≤ f) = true := decide_eq_true hc
  unfold Scr.val Scr.vals at *
  go_enter Try.func54, Try.ntmps54
  go_wp2_with fail
  refine (HL.out _).mono ?_; rintro e W ⟨rfl, hb⟩
  have B0 := Kit.kept hb (Kit.blk1 _ _)
  have hB := Kit.then_ (Kit.below1 _ _) hb
  have hz := hb.size; simp at hz
  clear hb
  clear B0
  have HB := Lib.hid hB; clear hB
  go_wp2_with fail
  go_ret
  exact ⟨rfl, HB.out.alloc (by omega) _⟩

set_option maxRecDepth 100000 in
theorem pulses111 (s : Scr) (f t : Int) (w : World) (h : s.ok = true) (hf : 0 < f) (ht : 1099511627777 < t) (hc : f < 1099511627777) :
    Calls Try.prog 54 #[s.val, .int .i64 f, .int .i64 t] w fun e w' => e = .returned (.int .i64 (uptoV (s.lines * s.columns) s.pulse 1099511627777 - uptoV (s.lines * s.columns) s.pulse f)) ∧ Below w.heap.size w w' := by
  have hfi := s.fits h
  have hl := length_calls s
  rw [Scr.len_yes h] at hl
  clear h
  obtain ⟨_, _, c1, c2, _, _, _, _, _, _, _, _, _, p1, p2, _, _, _, _, _, n1, n2⟩ := hfi
  generalize hN : s.lines * s.columns = N at *
  have dn : (N == 0) = false := beq_eq_false_iff_ne.2 (by omega)
  have HL := Lib.hid hl; clear hl
  have dft : decide (1099511627777 ≤ f) = false := decide_eq_false (by omega)
  have u1 := uptoV_bounds N s.pulse 1099511627777 (by omega) (by omega) n1 p1 p2
  have u2 := uptoV_bounds N s.pulse f (by omega) (by omega) n1 p1 p2
  have hu : ∀ w g k, w.heap[g]? = some (.cells s.vals 40 (0, 0)) → w.cell? ⟨k, 0, none⟩ = some (.int .i64 N) → ∀ x, 0 ≤ x → x ≤ 1099511627777 → Calls Try.prog 117 #[.int .i64 x, .pointer (some ⟨k, 0, none⟩), .pointer (some ⟨g, 0, none⟩)] w fun e w' => e = .returned (.int .i64 (uptoV N s.pulse x)) ∧ Below w.heap.size w w' := fun w g k hg hk x h0 h1 => upto_calls s N x g k w hg hk h0 h1 n1 n2 p1 p2
  have HU := Lib.hid hu; clear hu
  generalize hU1 : uptoV N s.pulse 1099511627777 = U1 at *
  generalize hU2 : uptoV N s.pulse f = U2 at *
  have HU1 := Lib.hid hU1; have HU2 := Lib.hid hU2; clear hU1 hU2
  unfold Scr.val Scr.vals at *
  go_enter Try.func54, Try.ntmps54
  go_wp2_with fail
  refine (HL.out _).mono ?_; rintro e W ⟨rfl, hb⟩
  have B0 := Kit.kept hb (Kit.blk1 _ _)
  have hB := Kit.then_ (Kit.below1 _ _) hb
  have hz := hb.size; simp at hz
  clear hb
  have g0 := Kit.blk_old B0 (.cells #[.int .i64 N] 2 (0, 0))
  have k0 : (W.alloc (.cells #[.int .i64 N] 2 (0, 0))).cell? ⟨W.heap.size, 0, none⟩ = some (.int .i64 N) := Kit.cell (Kit.blk1 W (.cells #[.int .i64 N] 2 (0, 0))) 0 _ rfl
  have hz2 : W.heap.size + 1 = (W.alloc (.cells #[.int .i64 N] 2 (0, 0))).heap.size := by simp
  have hB2 := Lib.hid (hB.alloc (by omega) (.cells #[.int .i64 N] 2 (0, 0))); clear B0
  have G0 := Lib.hid g0; have K0 := Lib.hid k0; clear g0 k0 hB
  go_wp2_with fail
  refine (HU.out _ _ _ G0.out K0.out 1099511627777 (by omega) (by omega)).mono ?_; rintro e W1 ⟨rfl, hb1⟩
  have G1 := Lib.hid (Kit.kept hb1 G0.out)
  have K1 := Lib.hid ((hb1.cell (p := ⟨W.heap.size, 0, none⟩) (by simp)).trans K0.out)
  have HB3 := Lib.hid (hB2.out.trans (hb1.mono (by simp; omega))); clear hb1
  rw [HU1.out]
  go_wp2_with fail
  refine (HU.out _ _ _ G1.out K1.out f (by omega) (by omega)).mono ?_; rintro e W2 ⟨rfl, hb2⟩
  have HB4 := Lib.hid (Kit.then_ HB3.out hb2); clear hb2
  rw [HU2.out]
  go_wp2_with fail
  go_ret
  exact ⟨rfl, HB4.out⟩

def Scr.pulsesV (s : Scr) (f t : Int) : Int :=
  if s.ok = true ∧ max 0 f < min t 1099511627777 then uptoV (s.lines * s.columns) s.pulse (min t 1099511627777) - uptoV (s.lines * s.columns) s.pulse (max 0 f) else 0
end Go.Proofs.YthbbbmomlehimaaR.Ts
