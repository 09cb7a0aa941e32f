import Derived.Test.YthbbbmomlehimaaRCoG
set_option linter.unusedVariables false
namespace Go.Proofs.YthbbbmomlehimaaR.Ts
open Go.RowKit

/-! Plain laws on waits: no program here. -/
theorem Scr.spot_col (s : Scr) (h : s.ok = true) (t : Int) : (s.spot t).col = t % (s.lines * s.columns) % s.columns := by
  show t % s.columns = _
  rw [Int.emod_emod_of_dvd _ ⟨s.lines, by rw [Int.mul_comm]⟩]
theorem Scr.spot_next (s : Scr) (h : s.ok = true) (t : Int) (hc : (s.spot t).col + 1 < s.columns) : (s.spot (t + 1)).line = (s.spot t).line ∧ (s.spot (t + 1)).col = (s.spot t).col + 1 := by
  have f := s.fits h
  have l1 := f.l1; have c1 := f.c1; have n1 := f.n1
  have e0 := s.spot_col h t
  have e1 := s.spot_col h (t + 1)
  rw [e0] at hc
  rw [e0, e1]
  show (t + 1) % (s.lines * s.columns) / s.columns = t % (s.lines * s.columns) / s.columns ∧ _
  have hx0 : 0 ≤ t % (s.lines * s.columns) := Int.emod_nonneg _ (by omega)
  have hx1 : t % (s.lines * s.columns) < s.lines * s.columns := Int.emod_lt_of_pos _ (by omega)
  have hs : (t + 1) % (s.lines * s.columns) = (t % (s.lines * s.columns) + 1) % (s.lines * s.columns) := by rw [Int.emod_add_emod]
  generalize t % (s.lines * s.columns) = x at *
  have hq := Int.mul_ediv_add_emod x s.columns
  have hr0 : 0 ≤ x % s.columns := Int.emod_nonneg _ (by omega)
  have hql : x / s.columns < s.lines := Int.ediv_lt_of_lt_mul (by omega) hx1
  have hq0 : 0 ≤ x / s.columns := Int.ediv_nonneg hx0 (by omega)
  generalize x / s.columns = q at *
  generalize x % s.columns = r at *
  have hle : s.columns * q + s.columns ≤ s.lines * s.columns := by
    have h := Int.mul_le_mul_of_nonneg_left (show q + 1 ≤ s.lines by omega) (show 0 ≤ s.columns by omega)
    rw [Int.mul_add, Int.mul_one, Int.mul_comm s.columns s.lines] at h
    exact h
  have hx : (x + 1) % (s.lines * s.columns) = x + 1 := Int.emod_eq_of_lt (by omega) (by omega)
  rw [hs, hx]
  have hx2 : x + 1 = (r + 1) + s.columns * q := by omega
  rw [hx2]
  constructor
  · rw [Int.add_mul_ediv_left _ _ (by omega), Int.ediv_eq_zero_of_lt (by omega) hc]; omega
  · rw [Int.add_mul_emod_self_left, Int.emod_eq_of_lt (by omega) hc]
theorem Scr.wait_step (s : Scr) (h : s.ok = true) (t : Int) : s.wait t ≤ 1 + s.wait (t + 1) := by
  have f := s.fits h
  have hw := s.wait_le (t + 1)
  by_cases hh : s.hot t = true
  · have hk := hh
    simp only [Scr.hot, Bool.and_eq_true, decide_eq_true_eq] at hk
    obtain ⟨⟨⟨p1, p2⟩, p3⟩, p4⟩ := hk
    have e1 : s.wait t = max 0 (6 - ((s.spot t).col - (s.left - 1)) % 8) := by simp [Scr.wait, hh]
    obtain ⟨l1, l2, c1, c2, _, r1, r2, _, w1, w2, w3, f1, f2, _, _, t1, t2, tr, lw, _, _, _⟩ := f
    by_cases hc : ((s.spot t).col - (s.left - 1)) % 8 ≤ 4
    · obtain ⟨n1, n2⟩ := s.spot_next h t (by omega)
      have hh2 : s.hot (t + 1) = true := by
        simp only [Scr.hot, Bool.and_eq_true, decide_eq_true_eq]
        rw [n1, n2]
        omega
      have e2 : s.wait (t + 1) = max 0 (6 - ((s.spot (t + 1)).col - (s.left - 1)) % 8) := by simp [Scr.wait, hh2]
      rw [e1, e2, n2]
      omega
    · rw [e1]; omega
  · have e1 : s.wait t = 0 := by simp [Scr.wait, hh]
    omega
theorem Scr.go_mono (s : Scr) (h : s.ok = true) {t u : Int} (htu : t ≤ u) : s.go_ t ≤ s.go_ u := by
  obtain ⟨d, rfl⟩ : ∃ d : Nat, u = t + d := ⟨(u - t).toNat, by omega⟩
  clear htu
  induction d with
  | zero => simp
  | succ d ih =>
    refine Int.le_trans ih ?_
    have := s.wait_step h (t + d)
    unfold Scr.go_
    rw [show t + ((d + 1 : Nat) : Int) = t + d + 1 by omega]
    omega
theorem Scr.wait_frame (s : Scr) (h : s.ok = true) (t : Int) : s.wait (t + s.lines * s.columns) = s.wait t := by
  have e1 : (s.spot (t + s.lines * s.columns)).line = (s.spot t).line := by
    show (t + s.lines * s.columns) % (s.lines * s.columns) / s.columns = _
    rw [Int.add_emod_right]; rfl
  have e2 : (s.spot (t + s.lines * s.columns)).col = (s.spot t).col := by
    show (t + s.lines * s.columns) % s.columns = t % s.columns
    rw [Int.add_mul_emod_self_right]
  unfold Scr.wait Scr.hot
  rw [e1, e2]
theorem Scr.go_frame (s : Scr) (h : s.ok = true) (t : Int) : s.go_ (t + s.lines * s.columns) = s.go_ t + s.lines * s.columns := by
  unfold Scr.go_; rw [s.wait_frame h]; omega

theorem Scr.io_mono (s : Scr) (h : s.ok = true) (b c : Bool) {t u : Int} (htu : t ≤ u) : (s.io b c t).2 ≤ (s.io b c u).2 := by
  have g : ∀ {a b : Int}, a ≤ b → s.go_ a ≤ s.go_ b := fun h' => s.go_mono h h'
  cases b <;> cases c <;> simp only [Scr.io]
  · omega
  · have := g (show t + 1 ≤ u + 1 by omega); omega
  · have h1 := g htu
    have h2 := g (show s.go_ t + 1 ≤ s.go_ u + 1 by omega)
    have h3 := g (show s.go_ (s.go_ t + 1) + 1 ≤ s.go_ (s.go_ u + 1) + 1 by omega)
    have h4 := g (show s.go_ (s.go_ (s.go_ t + 1) + 1) + 1 ≤ s.go_ (s.go_ (s.go_ u + 1) + 1) + 1 by omega)
    omega
  · have h1 := g htu
    have h2 := g (show s.go_ t + 1 ≤ s.go_ u + 1 by omega)
    omega
theorem Scr.req_mono (s : Scr) (h : s.ok = true) (q : Rq) (b : Bool) {t u : Int} (htu : t ≤ u) : (s.req q b t).2 ≤ (s.req q b u).2 := by
  unfold Scr.req
  split
  · simp only; omega
  split
  · exact s.io_mono h _ _ htu
  split
  · have := s.go_mono h htu; simp only; omega
  · simp only; omega
theorem Scr.run_mono (s : Scr) (h : s.ok = true) (l : List (Rq × Bool)) {t u : Int} (htu : t ≤ u) : (s.run l t).2 ≤ (s.run l u).2 := by
  induction l generalizing t u with
  | nil => exact htu
  | cons x r ih => obtain ⟨q, b⟩ := x; exact ih (s.req_mono h q b htu)
theorem Scr.io_frame (s : Scr) (h : s.ok = true) (b c : Bool) (t : Int) : (s.io b c (t + s.lines * s.columns)).2 = (s.io b c t).2 + s.lines * s.columns := by
  have g := s.go_frame h
  have e : ∀ x : Int, x + s.lines * s.columns + 1 = x + 1 + s.lines * s.columns := fun x => by omega
  cases b <;> cases c <;> simp only [Scr.io, g, e]
theorem Scr.req_frame (s : Scr) (h : s.ok = true) (q : Rq) (b : Bool) (t : Int) : (s.req q b (t + s.lines * s.columns)).2 = (s.req q b t).2 + s.lines * s.columns := by
  unfold Scr.req
  split
  · simp only; omega
  split
  · exact s.io_frame h _ _ t
  split
  · simp only [s.go_frame h]; omega
  · simp only; omega
theorem Scr.run_frame (s : Scr) (h : s.ok = true) (l : List (Rq × Bool)) (t : Int) : (s.run l (t + s.lines * s.columns)).2 = (s.run l t).2 + s.lines * s.columns := by
  induction l generalizing t with
  | nil => rfl
  | cons x r ih => obtain ⟨q, b⟩ := x; simp only [Scr.run, s.req_frame h, ih]

def Scr.most (s : Scr) (q : Rq) : Int := if s.ok = false ∨ s.wide = 0 ∨ s.rows = 0 ∨ q.kind = 6 then 0 else if q.kind = 4 ∨ q.kind = 5 then 24 else 6
theorem Scr.wait_none (s : Scr) (h : s.wide = 0 ∨ s.rows = 0) (t : Int) : s.wait t = 0 := by
  unfold Scr.wait
  split
  · rename_i hh
    simp only [Scr.hot, Bool.and_eq_true, decide_eq_true_eq] at hh
    omega
  · rfl
theorem Scr.req_bounds (s : Scr) (h : s.ok = true) {q : Rq} (hq : q.okB = true) (b : Bool) (t : Int) :
    t ≤ (s.req q b t).1 ∧ (s.req q b t).1 < (s.req q b t).2 ∧ t + q.len ≤ (s.req q b t).2 ∧ (s.req q b t).2 ≤ t + (q.len + s.most q) := by
  have hs := Rq.shape hq
  have hl := s.req_le hq b t
  refine ⟨hl.1, hl.2.1, ?_⟩
  clear hl
  by_cases e6 : q.kind = 6
  · have hm : s.most q = 0 := by simp [Scr.most, e6]
    rw [hm]
    simp [Scr.req, e6]
  by_cases hn : s.wide = 0 ∨ s.rows = 0
  · have hm : s.most q = 0 := if_pos (.inr (by omega))
    rw [hm]
    have hg : ∀ x, s.go_ x = x := fun x => by unfold Scr.go_; rw [s.wait_none hn]; omega
    unfold Scr.req
    by_cases e4 : q.kind = 4 ∨ q.kind = 5
    · rw [if_neg e6, if_pos e4]
      cases b <;> cases (q.addr % 2 == 0) <;> simp only [Scr.io, hg] <;> omega
    · rw [if_neg e6, if_neg e4]
      split <;> simp only [hg] <;> omega
  · have hm : ¬ (s.ok = false ∨ s.wide = 0 ∨ s.rows = 0 ∨ q.kind = 6) := by simp [h]; omega
    unfold Scr.req
    by_cases e4 : q.kind = 4 ∨ q.kind = 5
    · have hm2 : s.most q = 24 := by unfold Scr.most; rw [if_neg hm, if_pos e4]
      rw [hm2, if_neg e6, if_pos e4]
      cases b <;> cases (q.addr % 2 == 0) <;> simp only [Scr.io]
      · omega
      · have h1 := s.go_le (t + 1); omega
      · have h1 := s.go_le t; have h2 := s.go_le (s.go_ t + 1); have h3 := s.go_le (s.go_ (s.go_ t + 1) + 1); have h4 := s.go_le (s.go_ (s.go_ (s.go_ t + 1) + 1) + 1); omega
      · have h1 := s.go_le t; have h2 := s.go_le (s.go_ t + 1); omega
    · have hm2 : s.most q = 6 := by unfold Scr.most; rw [if_neg hm, if_neg e4]
      rw [hm2, if_neg e6, if_neg e4]
      split
      · have h1 := s.go_le t; simp only; omega
      · simp only; omega
end Go.Proofs.YthbbbmomlehimaaR.Ts
