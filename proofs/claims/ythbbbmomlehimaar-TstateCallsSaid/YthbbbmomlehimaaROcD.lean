import Derived.Test.YthbbbmomlehimaaROcC
set_option linter.unusedVariables false
namespace Go.Proofs.YthbbbmomlehimaaR.Oc
open Go.RowKit

/-- A reader's variable: what is left, and its error. -/
def RdAt (w : World) (g : Nat) (l : List Int) (err : Int) : Prop :=
  ∃ A n c, w.heap[g]? = some (.cells #[.slice A n c, .int .i64 err, .bool true] 189 (0, 0)) ∧ BytesAt w A n l ∧ n ≤ c ∧ n ≤ 140737488351232 ∧ ∀ b ∈ l, 0 ≤ b ∧ b < 256

theorem RdAt.below {w w' : World} {g : Nat} {l : List Int} {err : Int} (h : RdAt w g l err) (hb : Below w.heap.size w w') : RdAt w' g l err := by
  obtain ⟨A, n, c, h1, h2, h3⟩ := h
  exact ⟨A, n, c, Kit.kept hb h1, h2.below hb, h3⟩

theorem new_calls (A : Option Addr) (n c : Nat) (l : List Int) (w : World) (hb : BytesAt w A n l) (hn : n ≤ 140737488351232) (hl : ∀ b ∈ l, 0 ≤ b ∧ b < 256) :
    Calls Try.prog 107 #[.slice A n c] w fun e w' => ∃ g, e = .returned (.pointer (some ⟨g, 0, none⟩)) ∧ w.heap.size ≤ g ∧ RdAt w' g l 0 ∧ Below w.heap.size w w' := by
  have HB := Lib.hid hb; have HL := Lib.hid hl; clear hb hl
  go_enter Try.func107, Try.ntmps107
  go_wp2_with fail
  refine (clone_calls A n c l _ HB.out hn).mono ?_; rintro e w1 ⟨v1, rfl, hown, hb⟩
  obtain ⟨A1, c1, rfl, hc1, hba⟩ := BytesAt.of_own hown
  have hsz := hb.size
  have HBA := Lib.hid hba; have HB1 := Lib.hid hb; clear hown hba hb
  go_wp2_with fail
  go_ret
  exact ⟨w1.heap.size, rfl, hsz, ⟨A1, n, c1, Kit.blk1 _ _, HBA.out.below (Kit.below1 _ _), hc1, hn, HL.out⟩, HB1.out.alloc hsz _⟩

theorem dead_no (w : World) (g : Nat) (l : List Int) (h : RdAt w g l 0) : Calls Try.prog 142 #[.pointer (some ⟨g, 0, none⟩)] w fun e w' => e = .returned (.bool false) ∧ w = w' := by
  obtain ⟨A, n, c, h1, _⟩ := h
  have x1 : w.cell? ⟨g, 1, none⟩ = some (.int .i64 0) := Kit.cell h1 1 _ rfl
  have x2 : w.cell? ⟨g, 2, none⟩ = some (.bool true) := Kit.cell h1 2 _ rfl
  clear h1
  go_enter Try.func142, Try.ntmps142
  go_wp2_with fail
  go_ret
  exact ⟨rfl, rfl⟩
theorem dead_yes (w : World) (g : Nat) (l : List Int) (err : Int) (h : RdAt w g l err) (he : err ≠ 0) : Calls Try.prog 142 #[.pointer (some ⟨g, 0, none⟩)] w fun e w' => e = .returned (.bool true) ∧ w = w' := by
  obtain ⟨A, n, c, h1, _⟩ := h
  have x1 : w.cell? ⟨g, 1, none⟩ = some (.int .i64 err) := Kit.cell h1 1 _ rfl
  have x2 : w.cell? ⟨g, 2, none⟩ = some (.bool true) := Kit.cell h1 2 _ rfl
  have he2 : (err != 0) = true := by simpa using he
  clear h1 he
  go_enter Try.func142, Try.ntmps142
  go_wp2_with fail
  go_ret
  exact ⟨rfl, rfl⟩
theorem err_calls (w : World) (g : Nat) (l : List Int) (err : Int) (h : RdAt w g l err) : Calls Try.prog 126 #[.pointer (some ⟨g, 0, none⟩)] w fun e w' => e = .returned (.int .i64 err) ∧ w = w' := by
  obtain ⟨A, n, c, h1, _⟩ := h
  have x1 : w.cell? ⟨g, 1, none⟩ = some (.int .i64 err) := Kit.cell h1 1 _ rfl
  have x2 : w.cell? ⟨g, 2, none⟩ = some (.bool true) := Kit.cell h1 2 _ rfl
  clear h1
  go_enter Try.func126, Try.ntmps126
  go_wp2_with fail
  go_ret
  exact ⟨rfl, rfl⟩
/-- Bytes in memory lie in no reader's variable. -/
theorem BytesAt.ne {w : World} {A : Option Addr} {n g : Nat} {l : List Int} {B : Option Addr} {m c : Nat} {err : Int} {bb : Bool} (h : BytesAt w A n l) (hg : w.heap[g]? = some (.cells #[.slice B m c, .int .i64 err, .bool bb] 189 (0, 0))) (hn : 0 < n) {a : Addr} (ha : A = some a) : a.block ≠ g := by
  obtain ⟨b, off, e, _, hc⟩ := h.2 hn
  rw [ha] at e
  obtain rfl := Option.some.inj e
  intro (e2 : b = g)
  subst e2
  have h0 := hc 0 hn
  rw [cell_of_row w b (off + 0) _ _ _ hg] at h0
  match off, h0 with
  | 0, h0 => simp at h0
  | 1, h0 => simp at h0
  | 2, h0 => simp at h0
  | k + 3, h0 => simp at h0
theorem BytesAt.set_ {w : World} {A : Option Addr} {n g : Nat} {l : List Int} {B : Option Addr} {m c : Nat} {err : Int} {bb : Bool} (h : BytesAt w A n l) (hg : w.heap[g]? = some (.cells #[.slice B m c, .int .i64 err, .bool bb] 189 (0, 0))) (j : Nat) (u : Value) : BytesAt (w.setCell ⟨g, j, none⟩ u) A n l := by
  refine ⟨h.1, fun hn => ?_⟩
  obtain ⟨b, off, e, hlt, hc⟩ := h.2 hn
  have hne : b ≠ g := h.ne hg hn e
  refine ⟨b, off, e, by simpa [World.setCell] using hlt, fun i hi => ?_⟩
  rw [World.cell?_setCell_other]
  · exact hc i hi
  · intro e2; injection e2 with e3; exact hne e3.symm
theorem fail_calls (w : World) (g : Nat) (l : List Int) (err e0 : Int) (h : RdAt w g l err) : Calls Try.prog 143 #[.pointer (some ⟨g, 0, none⟩), .int .i64 e0] w fun e w' => e = .returned (.int .u64 0) ∧ RdAt w' g l e0 ∧ Kit.But g w w' := by
  obtain ⟨A, n, c, h1, h2, h3⟩ := h
  have x1 : w.cell? ⟨g, 1, none⟩ = some (.int .i64 err) := Kit.cell h1 1 _ rfl
  have f1 := Kit.frz h1 1
  have H1 := Lib.hid h1; have H2 := Lib.hid h2; have H3 := Lib.hid h3; clear h1 h2 h3
  go_enter Try.func143, Try.ntmps143
  go_wp2_with fail
  go_ret
  exact ⟨rfl, ⟨A, n, c, Kit.set_ H1.out 1 _ rfl, H2.out.set_ H1.out 1 _, H3.out⟩, (Kit.But.refl g w).set_ 1 _⟩
end Go.Proofs.YthbbbmomlehimaaR.Oc
