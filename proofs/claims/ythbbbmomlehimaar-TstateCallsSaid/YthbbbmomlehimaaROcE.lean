import Derived.Test.YthbbbmomlehimaaROcD
set_option linter.unusedVariables false
namespace Go.Proofs.YthbbbmomlehimaaR.Oc
open Go.RowKit

/-- A slice's tail, as Go cuts it. -/
def cutA (A : Option Addr) (c k : Nat) : Option Addr := if c = k then A else A.map (·.add k)
theorem BytesAt.drop {w : World} {A : Option Addr} {n c : Nat} {l : List Int} (h : BytesAt w A n l) (k : Nat) (hk : k ≤ n) (hc : n ≤ c) : BytesAt w (cutA A c k) (n - k) (l.drop k) := by
  refine ⟨by rw [List.length_drop, h.1], fun hn => ?_⟩
  obtain ⟨b, off, rfl, hlt, hcell⟩ := h.2 (by omega)
  refine ⟨b, off + k, ?_, hlt, fun i hi => ?_⟩
  · unfold cutA
    rw [if_neg (by omega)]
    simp only [Option.map_some]
    congr 1
    unfold Addr.add
    split <;> simp_all
  · have := hcell (k + i) (by omega)
    rw [Nat.add_assoc, this]
    congr 2
    simp [List.getD]

theorem or_byte (x b : Int) (h0 : 0 ≤ x) (h1 : x < 72057594037927936) (hb : 0 ≤ b) (hb2 : b < 256) : bits .or .u64 (x * 256) b = x * 256 + b :=
  bits_join .u64 64 (by decide) (fun n h0 h1 => by rw [IntKind.wrap_u64]; omega) 8 (x * 256) b (by omega) (by omega) (by omega) hb (by omega) (by omega)

set_option maxRecDepth 100000 in
theorem num_dead (w : World) (g : Nat) (l : List Int) (err : Int) (h : RdAt w g l err) (he : err ≠ 0) : Calls Try.prog 141 #[.pointer (some ⟨g, 0, none⟩)] w fun e w' => e = .returned (.int .u64 0) ∧ w = w' := by
  have H := Lib.hid h; have HE := Lib.hid he; clear h he
  go_enter Try.func141, Try.ntmps141
  go_wp2_with fail
  refine (dead_yes w g l err H.out HE.out).mono ?_; rintro e w1 ⟨rfl, rfl⟩
  go_wp2_with fail
  go_ret
  exact ⟨rfl, rfl⟩

set_option maxRecDepth 100000 in
theorem num_empty (w : World) (g : Nat) (h : RdAt w g [] 0) : Calls Try.prog 141 #[.pointer (some ⟨g, 0, none⟩)] w fun e w' => e = .returned (.int .u64 0) ∧ RdAt w' g [] 5 ∧ Kit.But g w w' := by
  have H := Lib.hid h
  obtain ⟨A, n, c, h1, h2, _⟩ := h
  have x0 : w.cell? ⟨g, 0, none⟩ = some (.slice A n c) := Kit.cell h1 0 _ rfl
  obtain rfl : n = 0 := h2.1.symm
  clear h1 h2
  go_enter Try.func141, Try.ntmps141
  go_wp2_with fail
  refine (dead_no w g [] H.out).mono ?_; rintro e w1 ⟨rfl, rfl⟩
  go_wp2_with fail
  refine (fail_calls w g [] 0 5 H.out).mono ?_; rintro e w1 ⟨rfl, hr, hb⟩
  have HR := Lib.hid hr; have HB := Lib.hid hb; clear hr hb
  go_wp2_with fail
  go_ret
  exact ⟨rfl, HR.out, HB.out⟩

set_option maxRecDepth 100000 in
theorem num_small (w : World) (g : Nat) (x : Int) (l : List Int) (h : RdAt w g (x :: l) 0) (hx : x ≤ 247) : Calls Try.prog 141 #[.pointer (some ⟨g, 0, none⟩)] w fun e w' => e = .returned (.int .u64 x) ∧ RdAt w' g l 0 ∧ Kit.But g w w' := by
  have H := Lib.hid h
  obtain ⟨A, n, c, h1, h2, hc, hn, hl⟩ := h
  obtain rfl : n = l.length + 1 := h2.1.symm
  obtain ⟨b, off, rfl, hlt, hcell⟩ := h2.2 (by omega)
  have y0 : w.cell? ⟨b, off + 0, none⟩ = some (.int .u8 x) := hcell 0 (by omega)
  rw [Nat.add_zero] at y0
  have hx2 := hl x (by simp)
  have x0 : w.cell? ⟨g, 0, none⟩ = some (.slice (some ⟨b, off, none⟩) (l.length + 1) c) := Kit.cell h1 0 _ rfl
  have f0 := Kit.frz h1 0
  have hne : ((l.length + 1 : Nat) : Int) ≠ 0 := by omega
  clear hcell
  have HL := Lib.hid hl; have H1 := Lib.hid h1; have H2 := Lib.hid h2; clear hl h1 h2
  have hres : ∀ (A' : Option Addr) (c' : Nat), A' = cutA (some ⟨b, off, none⟩) c 1 → l.length ≤ c' → RdAt (w.setCell ⟨g, 0, none⟩ (.slice A' l.length c')) g l 0 := fun A' c' hA hc' => by
    subst hA
    refine ⟨_, l.length, c', Kit.set_ H1.out 0 _ rfl, ?_, hc', by omega, fun y hy => HL.out y (by simp [hy])⟩
    have := (H2.out.drop 1 (by omega) hc).set_ H1.out 0 (.slice (cutA (some ⟨b, off, none⟩) c 1) l.length c')
    simpa using this
  have HRES := Lib.hid hres; clear hres
  go_enter Try.func141, Try.ntmps141
  go_wp2_with fail
  refine (dead_no w g (x :: l) H.out).mono ?_; rintro e w1 ⟨rfl, rfl⟩
  by_cases hc1 : c = 1
  · subst hc1
    obtain rfl : l = [] := List.length_eq_zero_iff.1 (by omega)
    go_wp2_with fail
    go_ret
    exact ⟨rfl, HRES.out _ 0 (by simp [cutA]) (Nat.le_refl _), (Kit.But.refl g w).set_ 0 _⟩
  · have hc2 : ¬ (c : Int) = 1 := by omega
    go_wp2_with fail
    go_ret
    refine ⟨rfl, HRES.out _ _ ?_ ?_, (Kit.But.refl g w).set_ 0 _⟩
    · simp [cutA, hc1, Addr.add]
    · omega
end Go.Proofs.YthbbbmomlehimaaR.Oc
