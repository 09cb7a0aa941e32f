import Derived.Test.YthbbbmomlehimaaRRdA
import Derived.Test.YthbbbmomlehimaaRTsC
import Derived.Test.YthbbbmomlehimaaROcB
import Derived.Maps.OwnOps
set_option linter.unusedVariables false
namespace Go.Proofs.YthbbbmomlehimaaR.Rd
open Go.RowKit Ts
open Go.MapKept

theorem key2 (k : Int) : IsKey (.int .i64) (.int .i64 k) := rfl
theorem look_nil (k : Int) (w : World) : (Instr.lookup 201 (.map none) (.int .i64 k) false).run Try.prog w = .ok (.int .u8 0) w := by
  have hz : ∀ w, (zeroValue 5).run Try.prog w = .ok (.int .u8 0) w := fun w => by kernel_rfl
  have h1 := run_checkKey (w := w) Try.underlying2 (key2 k) true 9999
  have h2 := run_findKey (w := w) (kt := 2) (k := .int .i64 k) (l := []) (a := none) Try.underlying2 rfl
  simp [Instr.lookup, run_underlying Try.underlying201, h1, h2, hz, Result.andThen]
theorem look_empty (b : Nat) (k : Int) (w : World) (h : w.heap[b]? = some (.map #[] 0)) : (Instr.lookup 194 (.map (some b)) (.int .i64 k) false).run Try.prog w = .ok (.pointer none) w := by
  have hz : ∀ w, (zeroValue 193).run Try.prog w = .ok (.pointer none) w := fun w => by kernel_rfl
  have hg := Go.MapKept.run_getObj_map (P := Try.prog) h
  have h1 := run_checkKey (w := w) Try.underlying2 (key2 k) true 9999
  have h2 := run_findKey (w := w) (kt := 2) (k := .int .i64 k) (l := []) (a := none) Try.underlying2 rfl
  simp [Instr.lookup, run_underlying Try.underlying194, hg, h1, h2, hz, Result.andThen]

def clS : Scr := ⟨311, 228, 63, 192, 14, 32, 36⟩
theorem cl_ok : clS.ok = true := by decide
def CLV : Array Value := #[.int .i64 311, .int .i64 228, .int .i64 63, .int .i64 192, .int .i64 14, .int .i64 32, .int .i64 36]
theorem cl_val : clS.val = .agg CLV := rfl
theorem cl_check (w : World) : Calls Try.prog 37 #[.agg CLV] w fun e w' => e = .returned (.int .i64 0) ∧ Below w.heap.size w w' := by
  have h := check_calls clS w
  rwa [Scr.code_yes cl_ok] at h
theorem cl_length (w : World) : Calls Try.prog 51 #[.agg CLV] w fun e w' => e = .returned (.int .i64 70908) ∧ Below w.heap.size w w' := by
  have h := length_calls clS w
  rwa [Scr.len_yes cl_ok] at h

set_option maxRecDepth 100000 in
theorem when_calls (x y : Nat) (w : World) (hx : x < 32) (hy : y < 192) :
    Calls Try.prog 150 #[.agg CLV, .int .i64 x, .int .i64 y] w fun e w' => ∃ t : Int, e = .returned (.tuple #[.int .i64 t, .bool true]) ∧ Below w.heap.size w w' := by
  have HC := Lib.hid cl_check
  have d1 : decide ((x : Int) < 0) = false := decide_eq_false (by omega)
  have d2 : decide ((32 : Int) ≤ x) = false := decide_eq_false (by omega)
  have d3 : decide ((y : Int) < 0) = false := decide_eq_false (by omega)
  have d4 : decide ((192 : Int) ≤ y) = false := decide_eq_false (by omega)
  unfold CLV at *
  go_enter Try.func150, Try.ntmps150
  go_wp2_with fail
  refine (HC.out _).mono ?_; rintro e w1 ⟨rfl, hb⟩
  have B0 := Kit.kept hb (Kit.blk1 _ _)
  have HB := Lib.hid (Kit.then_ (Kit.below1 _ _) hb); clear hb
  have c1 := Kit.cell B0 1 _ rfl
  have c2 := Kit.cell B0 2 _ rfl
  have c3 := Kit.cell B0 3 _ rfl
  have c4 := Kit.cell B0 4 _ rfl
  have c5 := Kit.cell B0 5 _ rfl
  clear B0
  go_wp2_with fail
  go_ret2
  exact ⟨_, rfl, HB.out⟩

theorem mcheck_nil (w : World) : Calls Try.prog 32 #[.slice none 0 0] w fun e w' => e = .returned (.int .i64 0) ∧ w = w' := by
  go_enter Try.func32, Try.ntmps32
  go_wp2_with fail
  refine wp_loop_rounds 1 ?_
  rw [rounds_succ]
  go_wp2_with fail
  go_ret
  exact ⟨rfl, rfl⟩
set_option maxRecDepth 100000 in
theorem rcheck_calls (w : World) : Calls Try.prog 144 #[.agg CLV, .slice none 0 0] w fun e w' => e = .returned (.int .i64 0) ∧ Below w.heap.size w w' := by
  have HC := Lib.hid cl_check
  unfold CLV at *
  go_enter Try.func144, Try.ntmps144
  go_wp2_with fail
  refine (HC.out _).mono ?_; rintro e w1 ⟨rfl, hb⟩
  have HB := Lib.hid (Kit.then_ (Kit.below1 _ _) hb); clear hb
  go_wp2_with fail
  refine (mcheck_nil _).mono ?_; rintro e w2 ⟨rfl, rfl⟩
  go_wp2_with fail
  go_ret
  exact ⟨rfl, HB.out⟩
set_option maxRecDepth 100000 in
theorem gather_calls (w : World) : Calls Try.prog 146 #[.agg CLV, .slice none 0 0] w fun e w' => ∃ b, e = .returned (.map (some b)) ∧ w'.heap[b]? = some (.map #[] 0) ∧ w.heap.size ≤ b ∧ Below w.heap.size w w' := by
  have HC := Lib.hid cl_length
  have hmm := @run_makeMap Try.prog
  unfold CLV at *
  go_enter Try.func146, Try.ntmps146
  go_wp2_with fail
  refine (HC.out _).mono ?_; rintro e w1 ⟨rfl, hb⟩
  have HB := Lib.hid (Kit.then_ (Kit.below1 _ _) hb); clear hb
  go_wp2_with fail
  refine wp_loop_rounds 1 ?_
  rw [rounds_succ]
  go_wp2_with fail
  go_ret
  exact ⟨_, rfl, Kit.blk1 _ _, HB.out.size, HB.out.alloc HB.out.size _⟩
end Go.Proofs.YthbbbmomlehimaaR.Rd
