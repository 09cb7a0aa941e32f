import Derived.Test.YthbbbmomlehimaaRTsG
import Derived.Test.YthbbbmomlehimaaRKitB
import Derived.Test.YthbbbmomlehimaaRTsD
set_option linter.unusedVariables false
namespace Go.Proofs.YthbbbmomlehimaaR.Ts
open Go.RowKit Oc

/-! A screen is its bytes. -/
theorem ct_enc (x : Int) (r : List Int) (h0 : 0 ≤ x) (h1 : x ≤ 1000) : ct (enc x.toNat ++ r) 0 1000 = (x, r, 0) := by
  unfold ct
  rw [rd_enc, Int.toNat_of_nonneg h0]
  simp
  omega
theorem read_encs (s : Scr) (h : s.ok = true) : Scr.read (encs s.nums) = s ∧ readOk (encs s.nums) = true := by
  have hf := s.fits h
  obtain ⟨a1, a2, b1, b2, _, r1, r2, _, w1, w2, _, f1, f2, p1, p2, t1, t2, tr, lw, _, _, _⟩ := hf
  have e0 : encs s.nums = enc s.lines.toNat ++ (enc s.columns.toNat ++ (enc s.top.toNat ++ (enc s.rows.toNat ++ (enc s.left.toNat ++ (enc s.wide.toNat ++ (enc s.pulse.toNat ++ [])))))) := rfl
  rw [e0]
  have s0 : ∀ l : List Int, st l 0 = (l, 0) := fun _ => rfl
  have sx : ∀ (l r : List Int) (i : Nat) (x : Int), 0 ≤ x → x ≤ 1000 → st l i = (enc x.toNat ++ r, 0) → xs l i = x ∧ st l (i + 1) = (r, 0) := fun l r i x h0 h1 e => by
    unfold xs; rw [st, e]; simp [ct_enc x r h0 h1]
  generalize hL : (enc s.lines.toNat ++ (enc s.columns.toNat ++ (enc s.top.toNat ++ (enc s.rows.toNat ++ (enc s.left.toNat ++ (enc s.wide.toNat ++ (enc s.pulse.toNat ++ []))))))) = L
  have q0 := s0 L
  rw (occs := .pos [2]) [← hL] at q0
  obtain ⟨x0, q1⟩ := sx L _ 0 _ (by omega) (by omega) q0
  obtain ⟨x1, q2⟩ := sx L _ 1 _ (by omega) (by omega) q1
  obtain ⟨x2, q3⟩ := sx L _ 2 _ (by omega) (by omega) q2
  obtain ⟨x3, q4⟩ := sx L _ 3 _ (by omega) (by omega) q3
  obtain ⟨x4, q5⟩ := sx L _ 4 _ (by omega) (by omega) q4
  obtain ⟨x5, q6⟩ := sx L _ 5 _ (by omega) (by omega) q5
  obtain ⟨x6, q7⟩ := sx L _ 6 _ (by omega) (by omega) q6
  have hr : Scr.read L = s := by unfold Scr.read; rw [x0, x1, x2, x3, x4, x5, x6]
  exact ⟨hr, by rw [readOk, hr, h, q7]; rfl⟩
theorem encs_byte (l : List Int) (h : ∀ x ∈ l, x ≤ 1000) : ∀ b ∈ encs l, 0 ≤ b ∧ b < 256 := by
  induction l with
  | nil => simp [encs]
  | cons x r ih =>
    intro b hb
    rw [encs] at hb
    rcases List.mem_append.1 hb with hb | hb
    · exact enc_byte _ (by have := h x (by simp); omega) b hb
    · exact ih (fun y hy => h y (by simp [hy])) b hb

/-! The interrupt. -/
def Scr.pulseB (s : Scr) (t : Int) : Bool := s.ok && decide (0 ≤ t) && decide (t ≤ 1099511627776) && decide (t % (s.lines * s.columns) < s.pulse)
theorem may_calls (t : Int) (w : World) : Calls Try.prog 110 #[.int .i64 t] w fun e w' => e = .returned (.bool (decide (0 ≤ t) && decide (t ≤ 1099511627776))) ∧ Below w.heap.size w w' := by
  by_cases h : 0 ≤ t ∧ t ≤ 1099511627776
  · refine (may_yes t h.1 h.2 w).mono ?_
    rintro e w' ⟨rfl, rfl⟩
    exact ⟨by simp [h.1, h.2], Below.refl _ _⟩
  · refine (may_no t (by omega) w).mono ?_
    rintro e w' ⟨rfl, rfl⟩
    refine ⟨?_, Below.refl _ _⟩
    congr 2
    by_cases h0 : 0 ≤ t
    · simp [h0]; omega
    · simp [h0]

theorem pulse_in (s : Scr) (t : Int) (h : s.ok = true) (h1 : 0 ≤ t) (h2 : t ≤ 1099511627776) (w : World) :
    Calls Try.prog 52 #[s.val, .int .i64 t] w fun e w' => e = .returned (.bool (decide (t % (s.lines * s.columns) < s.pulse))) ∧ Below w.heap.size w w' := by
  have hf := s.fits h
  have hl := length_calls s
  rw [Scr.len_yes h] at hl
  clear h
  obtain ⟨_, _, c1, c2, _, _, _, _, _, _, _, _, _, _, _, _, _, _, _, _, n1, n2⟩ := hf
  unfold Scr.val Scr.vals at *
  have HL := Lib.hid hl; clear hl
  go_enter Try.func52, Try.ntmps52
  go_wp2_with fail
  refine (HL.out _).mono ?_; rintro e W ⟨rfl, hb⟩
  have B0 := Kit.kept hb (Kit.blk1 _ _)
  have hB := Kit.then_ (Kit.below1 _ _) hb
  have hz := hb.size; simp at hz
  clear hb
  have y6 := fun d os => cell_regrown (Kit.cell B0 6 _ rfl : W.cell? ⟨w.heap.size, 6, none⟩ = some (.int .i64 s.pulse)) d os
  clear B0
  have HB := Lib.hid hB; clear hB
  have hm : 0 ≤ t % (s.lines * s.columns) := Int.emod_nonneg _ (by omega)
  have hm2 : t % (s.lines * s.columns) < s.lines * s.columns := Int.emod_lt_of_pos _ (by omega)
  have dn : decide (0 < s.lines * s.columns) = true := decide_eq_true (by omega)
  generalize hN : s.lines * s.columns = N at *
  have HN := Lib.hid hN; clear hN
  have hmay : ∀ w, Calls Try.prog 110 #[.int .i64 t] w fun e w' => e = .returned (.bool true) ∧ Below w.heap.size w w' := fun w => by
    have h := may_calls t w
    rwa [decide_eq_true h1, decide_eq_true h2] at h
  have HMAY := Lib.hid hmay; clear hmay
  go_wp2_with fail
  refine wp_region_quiet_below (by kernel_rfl) (by kernel_rfl) ?_
  repeat (go_big_quiet_step ((exact Calls.regrown_of (HMAY.out _))))
  refine wpQuiet_nil ?_
  intro _ hw'
  obtain ⟨⟨dq, osq⟩, hw''⟩ := hw'
  subst hw''
  have hbb := below_regrown W dq osq
  generalize Sort.grow (redrawn W dq) osq = w1 at *
  clear y6
  have hB1 := Kit.then_ HB.out hbb
  have HB1 := Lib.hid hB1; clear hB1 hbb
  go_wp2_with fail
  go_ret
  exact ⟨by rw [HN.out]; rfl, HB1.out⟩

/-- At how many times below t: n a frame's length, P the pulse's. -/
def uptoV (n P t : Int) : Int := t / n * P + if P < t % n then P else t % n
theorem uptoV_bounds (n P t : Int) (h0 : 0 ≤ t) (h1 : t ≤ 1099511627777) (n0 : 8 ≤ n) (p0 : 1 ≤ P) (p1 : P ≤ 64) : 0 ≤ uptoV n P t ∧ uptoV n P t ≤ 70368744177800 := by
  have q0 : 0 ≤ t / n := Int.ediv_nonneg h0 (by omega)
  have q1 : t / n ≤ t := Int.ediv_le_self _ h0
  have q2 : 0 ≤ t / n * P := Int.mul_nonneg q0 (by omega)
  have q3 : t / n * P ≤ 1099511627777 * 64 := Int.mul_le_mul (by omega) p1 (by omega) (by omega)
  have m0 : 0 ≤ t % n := Int.emod_nonneg _ (by omega)
  unfold uptoV
  split <;> omega
theorem upto_calls (s : Scr) (n t : Int) (g k : Nat) (w : World) (hg : w.heap[g]? = some (.cells s.vals 40 (0, 0))) (hk : w.cell? ⟨k, 0, none⟩ = some (.int .i64 n)) (h0 : 0 ≤ t) (h1 : t ≤ 1099511627777) (n0 : 8 ≤ n) (n1 : n ≤ 160000) (p0 : 1 ≤ s.pulse) (p1 : s.pulse ≤ 64) :
    Calls Try.prog 117 #[.int .i64 t, .pointer (some ⟨k, 0, none⟩), .pointer (some ⟨g, 0, none⟩)] w fun e w' => e = .returned (.int .i64 (uptoV n s.pulse t)) ∧ Below w.heap.size w w' := by
  have x6 := (Kit.cell hg 6 _ rfl : w.cell? ⟨g, 6, none⟩ = some (.int .i64 s.pulse))
  clear hg
  generalize s.pulse = P at *
  have q0 : 0 ≤ t / n := Int.ediv_nonneg h0 (by omega)
  have q1 : t / n ≤ t := Int.ediv_le_self _ h0
  have q2 : 0 ≤ t / n * P := Int.mul_nonneg q0 (by omega)
  have q3 : t / n * P ≤ 1099511627777 * 64 := Int.mul_le_mul (by omega) p1 (by omega) (by omega)
  have m0 : 0 ≤ t % n := Int.emod_nonneg _ (by omega)
  have m1 : t % n < n := Int.emod_lt_of_pos _ (by omega)
  by_cases hP : P < t % n
  · have e : uptoV n P t = t / n * P + P := by simp [uptoV, hP]
    rw [e]; clear e
    go_enter Try.func117, Try.ntmps117
    go_wp2_with fail
    go_region
    go_wp2_with fail
    go_ret
    exact ⟨rfl, (Below.refl _ _).drew⟩
  · have e : uptoV n P t = t / n * P + t % n := by simp [uptoV, hP]
    rw [e]; clear e
    go_enter Try.func117, Try.ntmps117
    go_wp2_with fail
    go_region
    go_wp2_with fail
    go_ret
    exact ⟨rfl, (Below.refl _ _).drew⟩

end Go.Proofs.YthbbbmomlehimaaR.Ts
