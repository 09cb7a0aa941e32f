import Derived.Test.YthbbbmomlehimaaRRfA
set_option linter.unusedVariables false
namespace Go.Proofs.YthbbbmomlehimaaR.Oc
open Go.RowKit

/-- The document's number: rd, behind an error: nothing. -/
def rf (l : List Int) (err : Int) : Int × List Int × Int := if err ≠ 0 then (0, l, err) else rd l

theorem BytesAt.rne {w : World} {A : Option Addr} {n g : Nat} {l : List Int} {B : Option Addr} {m c : Nat} {err : Int} (h : BytesAt w A n l) (hg : w.heap[g]? = some (.cells #[.slice B m c, .int .i64 err] 197 (0, 0))) (hn : 0 < n) {a : Addr} (ha : A = some a) : a.block ≠ g := by
  obtain ⟨b, off, e, _, hc⟩ := h.2 hn
  rw [ha] at e
  obtain rfl := Option.some.inj e
  intro (e2 : b = g)
  subst e2
  have h0 := hc 0 hn
  rw [cell_of_row w b (off + 0) _ _ _ hg] at h0
  match off, h0 with
  | 0, h0 => simp at h0
  | 1, h0 => simp at h0
  | k + 2, h0 => simp at h0
theorem BytesAt.rset {w : World} {A : Option Addr} {n g : Nat} {l : List Int} {B : Option Addr} {m c : Nat} {err : Int} (h : BytesAt w A n l) (hg : w.heap[g]? = some (.cells #[.slice B m c, .int .i64 err] 197 (0, 0))) (j : Nat) (u : Value) : BytesAt (w.setCell ⟨g, j, none⟩ u) A n l := by
  refine ⟨h.1, fun hn => ?_⟩
  obtain ⟨b, off, e, hlt, hc⟩ := h.2 hn
  have hne : b ≠ g := h.rne hg hn e
  refine ⟨b, off, e, by simpa [World.setCell] using hlt, fun i hi => ?_⟩
  rw [World.cell?_setCell_other]
  · exact hc i hi
  · intro e2; injection e2 with e3; exact hne e3.symm
theorem RfAt.err_ {w : World} {g : Nat} {l : List Int} {err : Int} (h : RfAt w g l err) (e : Int) : RfAt (w.setCell ⟨g, 1, none⟩ (.int .i64 e)) g l e := by
  obtain ⟨A, n, c, h1, h2, h3⟩ := h
  exact ⟨A, n, c, Kit.set_ h1 1 _ rfl, h2.rset h1 1 _, h3⟩

set_option maxRecDepth 100000 in
theorem rnum_dead (w : World) (g : Nat) (l : List Int) (err : Int) (h : RfAt w g l err) (he : err ≠ 0) : Calls Try.prog 115 #[.pointer (some ⟨g, 0, none⟩)] w fun e w' => e = .returned (.int .u64 0) ∧ w = w' := by
  obtain ⟨A, n, c, h1, _⟩ := h
  have x1 : w.cell? ⟨g, 1, none⟩ = some (.int .i64 err) := Kit.cell h1 1 _ rfl
  have heb : (err != 0) = true := by simpa using he
  clear h1 he
  go_enter Try.func115, Try.ntmps115
  go_wp2_with fail
  go_ret
  exact ⟨rfl, rfl⟩

set_option maxRecDepth 100000 in
theorem rnum_empty (w : World) (g : Nat) (h : RfAt w g [] 0) : Calls Try.prog 115 #[.pointer (some ⟨g, 0, none⟩)] w fun e w' => e = .returned (.int .u64 0) ∧ RfAt w' g [] 5 ∧ Kit.But g w w' := by
  have H := Lib.hid h
  obtain ⟨A, n, c, h1, h2, _⟩ := h
  have x0 : w.cell? ⟨g, 0, none⟩ = some (.slice A n c) := Kit.cell h1 0 _ rfl
  have x1 : w.cell? ⟨g, 1, none⟩ = some (.int .i64 0) := Kit.cell h1 1 _ rfl
  have f1 := Kit.frz h1 1
  obtain rfl : n = 0 := h2.1.symm
  clear h1 h2
  go_enter Try.func115, Try.ntmps115
  go_wp2_with fail
  go_ret
  exact ⟨rfl, H.out.err_ 5, (Kit.But.refl g w).set_ 1 _⟩

set_option maxRecDepth 100000 in
theorem rnum_small (w : World) (g : Nat) (x : Int) (l : List Int) (h : RfAt w g (x :: l) 0) (hx : x ≤ 247) : Calls Try.prog 115 #[.pointer (some ⟨g, 0, none⟩)] w fun e w' => e = .returned (.int .u64 x) ∧ RfAt w' g l 0 ∧ Kit.But g w w' := by
  obtain ⟨A, n, c, h1, h2, hc, hn, hl⟩ := h
  obtain rfl : n = l.length + 1 := h2.1.symm
  obtain ⟨b, off, rfl, hlt, hcell⟩ := h2.2 (by omega)
  have y0 : w.cell? ⟨b, off + 0, none⟩ = some (.int .u8 x) := hcell 0 (by omega)
  rw [Nat.add_zero] at y0
  have hx2 := hl x (by simp)
  have x0 : w.cell? ⟨g, 0, none⟩ = some (.slice (some ⟨b, off, none⟩) (l.length + 1) c) := Kit.cell h1 0 _ rfl
  have x1 : w.cell? ⟨g, 1, none⟩ = some (.int .i64 0) := Kit.cell h1 1 _ rfl
  have f0 := Kit.frz h1 0
  have hne : ((l.length + 1 : Nat) : Int) ≠ 0 := by omega
  clear hcell
  have HL := Lib.hid hl; have H1 := Lib.hid h1; have H2 := Lib.hid h2; clear hl h1 h2
  have hres : ∀ (A' : Option Addr) (c' : Nat), A' = cutA (some ⟨b, off, none⟩) c 1 → l.length ≤ c' → RfAt (w.setCell ⟨g, 0, none⟩ (.slice A' l.length c')) g l 0 := fun A' c' hA hc' => by
    subst hA
    refine ⟨_, l.length, c', Kit.set_ H1.out 0 _ rfl, ?_, hc', by omega, fun y hy => HL.out y (by simp [hy])⟩
    have := (H2.out.drop 1 (by omega) hc).rset H1.out 0 (.slice (cutA (some ⟨b, off, none⟩) c 1) l.length c')
    simpa using this
  have HRES := Lib.hid hres; clear hres
  go_enter Try.func115, Try.ntmps115
  by_cases hc1 : c = 1
  · subst hc1
    obtain rfl : l = [] := List.length_eq_zero_iff.1 (by omega)
    go_wp2_with fail
    go_ret
    exact ⟨rfl, HRES.out _ 0 (by simp [cutA]) (Nat.le_refl _), (Kit.But.refl g w).set_ 0 _⟩
  · have hc2 : ¬ (c : Int) = 1 := by omega
    go_wp2_with fail
    go_ret
    refine ⟨rfl, HRES.out _ _ ?_ ?_, (Kit.But.refl g w).set_ 0 _⟩
    · simp [cutA, hc1, Addr.add]
    · omega

set_option maxRecDepth 100000 in
theorem rend_calls (w : World) (g : Nat) (l : List Int) (err : Int) (h : RfAt w g l err) :
    Calls Try.prog 116 #[.pointer (some ⟨g, 0, none⟩)] w fun e w' => e = .returned (.int .i64 (en l err)) ∧ RfAt w' g l (en l err) ∧ Kit.But g w w' := by
  have H := Lib.hid h
  obtain ⟨A, n, c, h1, h2, h3⟩ := h
  have x0 : w.cell? ⟨g, 0, none⟩ = some (.slice A n c) := Kit.cell h1 0 _ rfl
  have x1 : w.cell? ⟨g, 1, none⟩ = some (.int .i64 err) := Kit.cell h1 1 _ rfl
  have f1 := Kit.frz h1 1
  have hl := h2.1
  clear h1 h2 h3
  by_cases he : err = 0
  · subst he
    by_cases hn : l = []
    · have : en l 0 = 0 := by simp [en, hn]
      rw [this]; clear this
      obtain rfl : n = 0 := by rw [← hl, hn]; rfl
      clear hn hl
      go_enter Try.func116, Try.ntmps116
      go_wp2_with fail
      go_ret
      exact ⟨rfl, H.out, Kit.But.refl _ _⟩
    · have : en l 0 = 4 := by simp [en, hn]
      rw [this]; clear this
      have hp : 0 < n := by rw [← hl]; exact List.length_pos_iff.2 hn
      have dn : decide (0 < (n : Int)) = true := decide_eq_true (by omega)
      have HLL := Lib.hid hl
      clear hn hl
      go_enter Try.func116, Try.ntmps116
      go_wp2_with fail
      go_ret
      exact ⟨rfl, H.out.err_ 4, (Kit.But.refl g w).set_ 1 _⟩
  · have : en l err = err := by simp [en, he]
    rw [this]; clear this
    have heb : (err == 0) = false := by simpa using he
    clear he hl
    go_enter Try.func116, Try.ntmps116
    go_wp2_with fail
    go_ret
    exact ⟨rfl, H.out, Kit.But.refl _ _⟩
end Go.Proofs.YthbbbmomlehimaaR.Oc
