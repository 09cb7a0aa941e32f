import Derived.Test.YthbbbmomlehimaaROcG
import Derived.Test.YthbbbmomlehimaaRTsC
set_option linter.unusedVariables false
namespace Go.Proofs.YthbbbmomlehimaaR.Ts
open Go.RowKit Oc

def encs : List Int → List Int
  | [] => []
  | x :: r => enc x.toNat ++ encs r
def Scr.nums (s : Scr) : List Int := [s.lines, s.columns, s.top, s.rows, s.left, s.wide, s.pulse]

theorem idx144 (vs : Array Value) (k : Nat) (v : Value) (hk : k < 7) (hv : vs[k]? = some v) (w : World) : (Instr.index 144 (.agg vs) (.int .i64 k)).run Try.prog w = .ok v w := by
  have hs : ∀ w, (Go.sizeOf 3).run Try.prog w = .ok 1 w := fun w => by kernel_rfl
  simp [Instr.index, run_underlying Try.underlying144, asIntOf, go_sem, hs, hk, hv]
/-- One number more behind bytes of one's own. -/
theorem more_calls (base n : Nat) (v : Value) (l : List Int) (x : Int) (w : World) (hown : w.ownsRow base 5 1 v n (u8s l)) (hn : n ≤ 140737488351232) (h0 : 0 ≤ x) (h1 : x ≤ 1000) :
    Calls Try.prog 106 #[v, .int .u64 x] w fun e w' => ∃ v', e = .returned v' ∧ w'.ownsRow w.heap.size 5 1 v' (n + (enc x.toNat).length) (u8s (l ++ enc x.toNat)) ∧ Below w.heap.size w w' := by
  obtain ⟨A, c, rfl, hc, hb⟩ := BytesAt.of_own hown
  have h := number_calls A n c l x.toNat w hb hn (by omega)
  rwa [show ((x.toNat : Nat) : Int) = x by omega] at h
theorem enc_len (x : Int) (h1 : x ≤ 1000) : (enc x.toNat).length ≤ 9 := by
  unfold enc
  split
  · simp
  · have := le_length 8 x.toNat (by omega)
    simp; omega

set_option maxRecDepth 100000 in
set_option maxHeartbeats 1000000 in
theorem bytes_calls (s : Scr) (w : World) (h : s.ok = true) :
    Calls Try.prog 38 #[s.val] w fun e w' => ∃ v, e = .returned (.tuple #[v, .int .i64 0]) ∧ w'.ownsRow w.heap.size 5 1 v (encs s.nums).length (u8s (encs s.nums)) ∧ Below w.heap.size w w' := by
  have hf := s.fits h
  have hc := check_calls s
  rw [Scr.code_yes h] at hc
  clear h
  obtain ⟨a1, a2, b1, b2, _, r1, r2, _, w1, w2, _, f1, f2, p1, p2, t1, t2, tr, lw, _, _, _⟩ := hf
  have HC := Lib.hid hc; clear hc
  have n_lines := enc_len s.lines (by omega)
  have n_columns := enc_len s.columns (by omega)
  have n_top := enc_len s.top (by omega)
  have n_rows := enc_len s.rows (by omega)
  have n_left := enc_len s.left (by omega)
  have n_wide := enc_len s.wide (by omega)
  have n_pulse := enc_len s.pulse (by omega)
  have hlen : (encs s.nums).length = (enc s.lines.toNat).length + (enc s.columns.toNat).length + (enc s.top.toNat).length + (enc s.rows.toNat).length + (enc s.left.toNat).length + (enc s.wide.toNat).length + (enc s.pulse.toNat).length := by simp only [encs, Scr.nums, List.length_append, List.length_nil]; omega
  have hlist : encs s.nums = ((((((([] ++ enc s.lines.toNat) ++ enc s.columns.toNat) ++ enc s.top.toNat) ++ enc s.rows.toNat) ++ enc s.left.toNat) ++ enc s.wide.toNat) ++ enc s.pulse.toNat) := by simp [encs, Scr.nums]
  rw [hlen, hlist]; clear hlen hlist
  unfold Scr.val Scr.vals at *
  have ix0 : ∀ w, (Instr.index 144 (.agg #[.int .i64 s.lines, .int .i64 s.columns, .int .i64 s.top, .int .i64 s.rows, .int .i64 s.left, .int .i64 s.wide, .int .i64 s.pulse]) (.int .i64 0)).run Try.prog w = .ok (.int .i64 s.lines) w := fun w => idx144 _ 0 _ (by decide) rfl w
  have ix1 : ∀ w, (Instr.index 144 (.agg #[.int .i64 s.lines, .int .i64 s.columns, .int .i64 s.top, .int .i64 s.rows, .int .i64 s.left, .int .i64 s.wide, .int .i64 s.pulse]) (.int .i64 1)).run Try.prog w = .ok (.int .i64 s.columns) w := fun w => idx144 _ 1 _ (by decide) rfl w
  have ix2 : ∀ w, (Instr.index 144 (.agg #[.int .i64 s.lines, .int .i64 s.columns, .int .i64 s.top, .int .i64 s.rows, .int .i64 s.left, .int .i64 s.wide, .int .i64 s.pulse]) (.int .i64 2)).run Try.prog w = .ok (.int .i64 s.top) w := fun w => idx144 _ 2 _ (by decide) rfl w
  have ix3 : ∀ w, (Instr.index 144 (.agg #[.int .i64 s.lines, .int .i64 s.columns, .int .i64 s.top, .int .i64 s.rows, .int .i64 s.left, .int .i64 s.wide, .int .i64 s.pulse]) (.int .i64 3)).run Try.prog w = .ok (.int .i64 s.rows) w := fun w => idx144 _ 3 _ (by decide) rfl w
  have ix4 : ∀ w, (Instr.index 144 (.agg #[.int .i64 s.lines, .int .i64 s.columns, .int .i64 s.top, .int .i64 s.rows, .int .i64 s.left, .int .i64 s.wide, .int .i64 s.pulse]) (.int .i64 4)).run Try.prog w = .ok (.int .i64 s.left) w := fun w => idx144 _ 4 _ (by decide) rfl w
  have ix5 : ∀ w, (Instr.index 144 (.agg #[.int .i64 s.lines, .int .i64 s.columns, .int .i64 s.top, .int .i64 s.rows, .int .i64 s.left, .int .i64 s.wide, .int .i64 s.pulse]) (.int .i64 5)).run Try.prog w = .ok (.int .i64 s.wide) w := fun w => idx144 _ 5 _ (by decide) rfl w
  have ix6 : ∀ w, (Instr.index 144 (.agg #[.int .i64 s.lines, .int .i64 s.columns, .int .i64 s.top, .int .i64 s.rows, .int .i64 s.left, .int .i64 s.wide, .int .i64 s.pulse]) (.int .i64 6)).run Try.prog w = .ok (.int .i64 s.pulse) w := fun w => idx144 _ 6 _ (by decide) rfl w
  go_enter Try.func38, Try.ntmps38
  go_wp2_with fail
  refine (HC.out _).mono ?_; rintro e w0 ⟨rfl, hb⟩
  have B0 := Kit.kept hb (Kit.blk1 _ _)
  have hB := Kit.then_ (Kit.below1 _ _) hb
  have hz := hb.size; simp at hz
  clear hb
  have c0 : w0.cell? ⟨w.heap.size, 0, none⟩ = some (.int .i64 s.lines) := Kit.cell B0 0 _ rfl
  have c1 : w0.cell? ⟨w.heap.size, 1, none⟩ = some (.int .i64 s.columns) := Kit.cell B0 1 _ rfl
  have c2 : w0.cell? ⟨w.heap.size, 2, none⟩ = some (.int .i64 s.top) := Kit.cell B0 2 _ rfl
  have c3 : w0.cell? ⟨w.heap.size, 3, none⟩ = some (.int .i64 s.rows) := Kit.cell B0 3 _ rfl
  have c4 : w0.cell? ⟨w.heap.size, 4, none⟩ = some (.int .i64 s.left) := Kit.cell B0 4 _ rfl
  have c5 : w0.cell? ⟨w.heap.size, 5, none⟩ = some (.int .i64 s.wide) := Kit.cell B0 5 _ rfl
  have c6 : w0.cell? ⟨w.heap.size, 6, none⟩ = some (.int .i64 s.pulse) := Kit.cell B0 6 _ rfl
  clear B0
  have HB0 := Lib.hid hB; clear hB
  have HO0 : Hid (w0.ownsRow w.heap.size 5 1 (.slice none 0 0) 0 (u8s [])) := World.ownsRow_nil _ _ _ _
  go_wp2_with fail
  refine wp_loop_rounds 8 ?_
  rw [rounds_succ]
  go_wp2_with fail
  refine (more_calls _ _ _ _ s.lines _ HO0.out (by omega) (by omega) (by omega)).mono ?_; rintro e w1 ⟨v1, rfl, hown, hb⟩
  have hz1 := hb.size
  have HO1 : Hid (w1.ownsRow w.heap.size 5 1 v1 _ (u8s _)) := Kit.own_lower hown (by omega)
  have HB1 : Hid (Below w.heap.size w w1) := HB0.out.trans (hb.mono (by omega)); clear hown hb
  go_wp2_with fail
  rw [rounds_succ]
  go_wp2_with fail
  refine (more_calls _ _ _ _ s.columns _ HO1.out (by omega) (by omega) (by omega)).mono ?_; rintro e w2 ⟨v2, rfl, hown, hb⟩
  have hz2 := hb.size
  have HO2 : Hid (w2.ownsRow w.heap.size 5 1 v2 _ (u8s _)) := Kit.own_lower hown (by omega)
  have HB2 : Hid (Below w.heap.size w w2) := HB1.out.trans (hb.mono (by omega)); clear hown hb
  go_wp2_with fail
  rw [rounds_succ]
  go_wp2_with fail
  refine (more_calls _ _ _ _ s.top _ HO2.out (by omega) (by omega) (by omega)).mono ?_; rintro e w3 ⟨v3, rfl, hown, hb⟩
  have hz3 := hb.size
  have HO3 : Hid (w3.ownsRow w.heap.size 5 1 v3 _ (u8s _)) := Kit.own_lower hown (by omega)
  have HB3 : Hid (Below w.heap.size w w3) := HB2.out.trans (hb.mono (by omega)); clear hown hb
  go_wp2_with fail
  rw [rounds_succ]
  go_wp2_with fail
  refine (more_calls _ _ _ _ s.rows _ HO3.out (by omega) (by omega) (by omega)).mono ?_; rintro e w4 ⟨v4, rfl, hown, hb⟩
  have hz4 := hb.size
  have HO4 : Hid (w4.ownsRow w.heap.size 5 1 v4 _ (u8s _)) := Kit.own_lower hown (by omega)
  have HB4 : Hid (Below w.heap.size w w4) := HB3.out.trans (hb.mono (by omega)); clear hown hb
  go_wp2_with fail
  rw [rounds_succ]
  go_wp2_with fail
  refine (more_calls _ _ _ _ s.left _ HO4.out (by omega) (by omega) (by omega)).mono ?_; rintro e w5 ⟨v5, rfl, hown, hb⟩
  have hz5 := hb.size
  have HO5 : Hid (w5.ownsRow w.heap.size 5 1 v5 _ (u8s _)) := Kit.own_lower hown (by omega)
  have HB5 : Hid (Below w.heap.size w w5) := HB4.out.trans (hb.mono (by omega)); clear hown hb
  go_wp2_with fail
  rw [rounds_succ]
  go_wp2_with fail
  refine (more_calls _ _ _ _ s.wide _ HO5.out (by omega) (by omega) (by omega)).mono ?_; rintro e w6 ⟨v6, rfl, hown, hb⟩
  have hz6 := hb.size
  have HO6 : Hid (w6.ownsRow w.heap.size 5 1 v6 _ (u8s _)) := Kit.own_lower hown (by omega)
  have HB6 : Hid (Below w.heap.size w w6) := HB5.out.trans (hb.mono (by omega)); clear hown hb
  go_wp2_with fail
  rw [rounds_succ]
  go_wp2_with fail
  refine (more_calls _ _ _ _ s.pulse _ HO6.out (by omega) (by omega) (by omega)).mono ?_; rintro e w7 ⟨v7, rfl, hown, hb⟩
  have hz7 := hb.size
  have HO7 : Hid (w7.ownsRow w.heap.size 5 1 v7 _ (u8s _)) := Kit.own_lower hown (by omega)
  have HB7 : Hid (Below w.heap.size w w7) := HB6.out.trans (hb.mono (by omega)); clear hown hb
  go_wp2_with fail
  rw [rounds_succ]
  go_wp2_with fail
  go_ret2
  exact ⟨_, rfl, by simpa using HO7.out, HB7.out⟩
end Go.Proofs.YthbbbmomlehimaaR.Ts
