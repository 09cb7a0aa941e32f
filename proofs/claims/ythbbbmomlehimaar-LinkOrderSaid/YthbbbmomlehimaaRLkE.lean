import Derived.Test.YthbbbmomlehimaaRLkD
import Derived.Laws.MakeOwn
set_option linter.unusedVariables false
namespace Go.Proofs.YthbbbmomlehimaaR.Lk
open Go.RowKit

/-! Rows of messages. -/
theorem flat_get {α : Type} (f : α → List Value) (S : Nat) (hS : ∀ a, (f a).length = S) : ∀ (l : List α) (i k : Nat), k < S → (l.flatMap f)[i * S + k]? = (l[i]?).bind fun a => (f a)[k]?
  | [], i, k, _ => by simp
  | a :: r, 0, k, hk => by
    rw [List.flatMap_cons, Nat.zero_mul, Nat.zero_add, List.getElem?_append_left (by rw [hS]; exact hk)]
    rfl
  | a :: r, i + 1, k, hk => by
    rw [List.flatMap_cons, List.getElem?_append_right (by rw [hS, Nat.add_mul]; omega), hS, show (i + 1) * S + k - S = i * S + k by rw [Nat.add_mul]; omega, flat_get f S hS r i k hk]
    rfl
theorem flat_len {α : Type} (f : α → List Value) (S : Nat) (hS : ∀ a, (f a).length = S) : ∀ (l : List α), (l.flatMap f).length = l.length * S
  | [] => by simp
  | a :: r => by rw [List.flatMap_cons, List.length_append, hS, flat_len f S hS r, List.length_cons, Nat.add_mul]; omega
def mcells (l : List Mg) : List Value := l.flatMap (·.vals.toList)
theorem mcells_len (l : List Mg) : (mcells l).length = l.length * 7 := flat_len _ 7 (fun _ => rfl) l
theorem mcells_get (l : List Mg) (i k : Nat) (hi : i < l.length) (hk : k < 7) : (mcells l)[i * 7 + k]? = (l.getD i default).vals[k]? := by
  unfold mcells
  rw [flat_get _ 7 (fun _ => rfl) l i k hk, List.getElem?_eq_getElem hi]
  simp [List.getD, List.getElem?_eq_getElem hi]
theorem mcells_one (l : List Mg) : ∀ u ∈ mcells l, u.oneCell' = true := by
  intro u hu
  obtain ⟨m, _, hm⟩ := List.mem_flatMap.1 hu
  simp [Mg.vals] at hm
  rcases hm with h | h | h | h | h | h | h <;> subst h <;> rfl
theorem mcells_snoc (l : List Mg) (m : Mg) : mcells (l ++ [m]) = mcells l ++ m.vals.toList := by simp [mcells]

def MsgsAt (w : World) (A : Option Addr) (n : Nat) (l : List Mg) : Prop :=
  l.length = n ∧ (0 < n → ∃ b off, A = some ⟨b, off, none⟩ ∧ b < w.heap.size ∧ ∀ i k, i < n → k < 7 → w.cell? ⟨b, off + i * 7 + k, none⟩ = (l.getD i default).vals[k]?)
theorem MsgsAt.keep {w w' : World} {A : Option Addr} {n : Nat} {l : List Mg} (h : MsgsAt w A n l) {g r : Nat} (hb : But2 g r w w') (hg : ∀ b off sp, 0 < n → A = some ⟨b, off, sp⟩ → b ≠ g ∧ b ≠ r) : MsgsAt w' A n l := by
  refine ⟨h.1, fun hn => ?_⟩
  obtain ⟨b, off, e, hlt, hc⟩ := h.2 hn
  obtain ⟨h1, h2⟩ := hg b off _ hn e
  exact ⟨b, off, e, Nat.lt_of_lt_of_le hlt hb.size, fun i k hi hk => (World.cell?_of_block (w := w) (a := ⟨b, _, none⟩) (hb.block b hlt h1 h2)).trans (hc i k hi hk)⟩
theorem MsgsAt.below {w w' : World} {A : Option Addr} {n : Nat} {l : List Mg} (h : MsgsAt w A n l) (hb : Below w.heap.size w w') : MsgsAt w' A n l := by
  refine ⟨h.1, fun hn => ?_⟩
  obtain ⟨b, off, e, hlt, hc⟩ := h.2 hn
  exact ⟨b, off, e, Nat.lt_of_lt_of_le hlt hb.size, fun i k hi hk => (hb.cell (p := ⟨b, _, none⟩) hlt).trans (hc i k hi hk)⟩
theorem MsgsAt.of_own {w : World} {base n : Nat} {v : Value} {l : List Mg} (h : w.ownsRow base 33 7 v n (mcells l)) : ∃ A c, v = .slice A n c ∧ n ≤ c ∧ (A = none → c = 0) ∧ MsgsAt w A n l := by
  have hl : l.length = n := by have := h.1; rw [mcells_len] at this; omega
  rcases h.2 with ⟨rfl, rfl⟩ | ⟨g, cap, cur, rfl, hb, hg, hn, hm, hs, ht⟩
  · exact ⟨_, _, rfl, Nat.le_refl _, fun _ => rfl, hl, fun h => by omega⟩
  · refine ⟨_, _, rfl, hn, fun h => (by cases h), hl, fun _ => ⟨g, 0, rfl, Kit.lt hg, fun i k hi hk => ?_⟩⟩
    rw [Nat.zero_add, cell_of_row w g (i * 7 + k) cur 33 (0, 0) hg, ← mcells_get l i k (by omega) hk, ← ht, List.getElem?_take, if_pos (by omega)]
    simp

/-! The kit's Pick. -/
theorem pick_calls (n m : Int) (w : World) (hm : 1 ≤ m) (hm2 : m ≤ 1000000) : Calls Try.prog 14 #[.int .i64 n, .int .i64 m] w fun e w' => e = .returned (.int .i64 (n % m)) ∧ w = w' := by
  have d1 : decide (m < 1) = false := decide_eq_false (by omega)
  have dm : (m == 0) = false := beq_eq_false_iff_ne.2 (by omega)
  have r0 := Int.emod_nonneg n (show m ≠ 0 by omega)
  have r1 := Int.emod_lt_of_pos n (show 0 < m by omega)
  by_cases h0 : 0 ≤ n
  · have d2 : decide (n % m < 0) = false := decide_eq_false (by omega)
    go_enter Try.func14, Try.ntmps14
    go_wp2_with fail
    go_ret
    exact ⟨rfl, rfl⟩
  · have ht := @Int.tmod_eq_emod n m
    have hab : (m.natAbs : Int) = m := by omega
    by_cases h : m ∣ n
    · rw [if_pos (.inr h)] at ht
      have e : n.tmod m = n % m := by omega
      have d2 : decide (n.tmod m < 0) = false := decide_eq_false (by omega)
      have HE := Lib.hid e; clear ht hab e h
      go_enter Try.func14, Try.ntmps14
      go_wp2_with fail
      go_ret
      exact ⟨by rw [← HE.out]; rfl, rfl⟩
    · rw [if_neg (by omega), hab] at ht
      have e : n.tmod m + m = n % m := by omega
      have d2 : decide (n.tmod m < 0) = true := decide_eq_true (by omega)
      have l1 : -m ≤ n.tmod m := by omega
      have l2 : n.tmod m < 0 := by omega
      have HE := Lib.hid e; clear ht hab e h
      go_enter Try.func14, Try.ntmps14
      go_wp2_with fail
      go_ret
      exact ⟨by rw [← HE.out]; rfl, rfl⟩

theorem promise_calls (t : Int) (w : World) : Calls Try.prog 79 #[.int .i64 t] w fun e w' => e = .returned (.agg #[.int .i64 4, .int .i64 t, .int .i64 0, .int .u8 0, .int .i64 0, .int .i64 0, .int .u8 0]) ∧ Below w.heap.size w w' := by
  go_enter Try.func79, Try.ntmps79
  go_wp2_with fail
  exact bodyPost_ret (Kit.res_c rfl w.heap.size rfl (Kit.blk1 _ _) Try.underlying33 rfl (by kernel_rfl)) rfl ⟨rfl, Kit.below1 _ _⟩

theorem info33 : (Try.prog.info? 33).map (fun i => (i.zero.map (·.cells), i.size, i.bytes)) = some (some #[.int .i64 0, .int .i64 0, .int .i64 0, .int .u8 0, .int .i64 0, .int .i64 0, .int .u8 0], 7, 56) := by kernel_rfl
def zmg : Mg := ⟨0, 0, 0, 0, 0, 0, 0⟩
def zcells : Array Value := #[.int .i64 0, .int .i64 0, .int .i64 0, .int .u8 0, .int .i64 0, .int .i64 0, .int .u8 0]
theorem made33 : ∃ (i : TypeInfo) (z : Value), Try.prog.info? 33 = some i ∧ i.zero = some z ∧ z.cells = zcells ∧ i.size = 7 ∧ i.bytes = 56 := by
  have h := info33
  cases hi : Try.prog.info? 33 with
  | none => rw [hi] at h; cases h
  | some i =>
    rw [hi] at h
    simp only [Option.map_some, Option.some.injEq, Prod.mk.injEq] at h
    obtain ⟨h1, h2, h3⟩ := h
    cases hz : i.zero with
    | none => rw [hz] at h1; cases h1
    | some z =>
      rw [hz] at h1
      simp only [Option.map_some, Option.some.injEq] at h1
      exact ⟨i, z, rfl, hz, h1, h2, h3⟩
set_option maxRecDepth 100000 in
theorem new_calls (n : Nat) (w : World) (h1 : 1 ≤ n) (h2 : n ≤ 4096) :
    Calls Try.prog 15 #[.int .i64 n] w fun e w' => ∃ g r, e = .returned (.tuple #[.pointer (some ⟨g, 0, none⟩), .int .i64 0]) ∧ LkRaw w' g r n 0 0 (fun _ => zmg) 0 false ∧ w.heap.size ≤ g ∧ w.heap.size ≤ r ∧ Below w.heap.size w w' := by
  obtain ⟨i, z, hi, hz, hzc, hs, hb⟩ := made33
  have hmk : ∀ W : World, (Instr.makeSlice 22 (.int .i64 (n : Int)) (.int .i64 (n : Int))).run Try.prog W = .ok (.slice (some ⟨W.heap.size, 0, none⟩) n n) (W.alloc (.cells (madeCells zcells (n * 7)) 33)) := fun W => by
    have h := run_make (P := Try.prog) W 22 33 i z Try.underlying22 hi hz .i64 .i64 n n (by omega) (Int.le_refl _) (by rw [hb]; omega) (by omega)
    rwa [hzc, hs, Int.toNat_natCast] at h
  clear hi hz hzc hs hb
  have d1 : decide ((n : Int) < 1) = false := decide_eq_false (by omega)
  have d2 : decide ((4096 : Int) < n) = false := decide_eq_false (by omega)
  have hcell : ∀ i k, i < n → k < 7 → (madeCells zcells (n * 7))[i * 7 + k]? = zmg.vals[k]? := fun i k hi hk => by
    have hlt : i * 7 + k < n * 7 := by omega
    have hm : (i * 7 + k) % 7 = k := by omega
    simp only [madeCells, Array.getElem?_map, Array.getElem?_range, hlt, if_true, Option.map_some]
    show some (zcells[(i * 7 + k) % 7]!) = _
    rw [hm]
    rcases (by omega : k = 0 ∨ k = 1 ∨ k = 2 ∨ k = 3 ∨ k = 4 ∨ k = 5 ∨ k = 6) with h | h | h | h | h | h | h <;> subst h <;> rfl
  generalize madeCells zcells (n * 7) = MC at *
  have HC := Lib.hid hcell; clear hcell
  go_enter Try.func15, Try.ntmps15
  go_wp2_with fail
  go_ret2
  refine ⟨w.heap.size + 1, w.heap.size, rfl, ?_, by omega, by omega, Kit.below2 _ _ _⟩
  exact ⟨Kit.blk2b _ _ _, by omega, by simp; omega, fun i k hi hk => (cell_of_row _ _ _ _ _ _ (Kit.blk2a w (.cells MC 33 (0, 0)) _)).trans (HC.out i k hi hk), fun o => Kit.frz (Kit.blk2a w (.cells MC 33 (0, 0)) _) o, h1, h2, by omega, by omega⟩
end Go.Proofs.YthbbbmomlehimaaR.Lk
