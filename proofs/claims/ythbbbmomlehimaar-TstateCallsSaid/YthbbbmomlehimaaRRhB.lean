import Derived.Test.YthbbbmomlehimaaRRhA
import Derived.Test.YthbbbmomlehimaaRTsF
import Derived.Test.YthbbbmomlehimaaRCoF
set_option linter.unusedVariables false
namespace Go.Proofs.YthbbbmomlehimaaR.Ts
open Go.RowKit Oc

set_option maxRecDepth 100000 in
theorem bytes_no (s : Scr) (w : World) (h : s.ok = false) :
    Calls Try.prog 38 #[s.val] w fun e w' => e = .returned (.tuple #[.slice none 0 0, .int .i64 2]) ∧ Below w.heap.size w w' := by
  have hc := check_calls s
  rw [Scr.code_no h] at hc
  have HC := Lib.hid hc; clear hc h
  unfold Scr.val Scr.vals at *
  go_enter Try.func38, Try.ntmps38
  go_wp2_with fail
  refine (HC.out _).mono ?_; rintro e W ⟨rfl, hb⟩
  have HB := Lib.hid (Kit.then_ (Kit.below1 _ _) hb); clear hb
  go_wp2_with fail
  go_ret2
  exact ⟨rfl, HB.out⟩

set_option maxRecDepth 100000 in
theorem rbytes_no (s : Scr) (w : World) (h : s.ok = false) :
    Calls Try.prog 48 #[s.val] w fun e w' => e = .returned (.tuple #[.slice none 0 0, .int .i64 2]) ∧ Below w.heap.size w w' := by
  have hc := ref02_calls s
  rw [Scr.code_no h] at hc
  have HC := Lib.hid hc; clear hc h
  unfold Scr.val Scr.vals at *
  go_enter Try.func48, Try.ntmps48
  go_wp2_with fail
  refine (HC.out _).mono ?_; rintro e W ⟨rfl, hb⟩
  have HB := Lib.hid (Kit.then_ (Kit.below1 _ _) hb); clear hb
  go_wp2_with fail
  go_ret2
  exact ⟨rfl, HB.out⟩

theorem rmore_calls (base n : Nat) (v : Value) (l : List Int) (x : Int) (w : World) (hown : w.ownsRow base 5 1 v n (u8s l)) (hbase : base ≤ w.heap.size) (hn : n ≤ 140737488351232) (h0 : 0 ≤ x) (h1 : x ≤ 1000) :
    Calls Try.prog 113 #[v, .int .u64 x] w fun e w' => ∃ v', e = .returned v' ∧ w'.ownsRow base 5 1 v' (n + (enc x.toNat).length) (u8s (l ++ enc x.toNat)) ∧ Below base w w' := by
  have h := rnumber_calls base n v l x.toNat w hown hbase hn (by omega)
  rwa [show ((x.toNat : Nat) : Int) = x by omega] at h

set_option maxRecDepth 100000 in
set_option maxHeartbeats 1000000 in
theorem rbytes_calls (s : Scr) (w : World) (h : s.ok = true) :
    Calls Try.prog 48 #[s.val] w fun e w' => ∃ v, e = .returned (.tuple #[v, .int .i64 0]) ∧ w'.ownsRow w.heap.size 5 1 v (encs s.nums).length (u8s (encs s.nums)) ∧ Below w.heap.size w w' := by
  have hf := s.fits h
  have hc := ref02_calls s
  rw [Scr.code_yes h] at hc
  clear h
  obtain ⟨a1, a2, b1, b2, _, r1, r2, _, w1, w2, _, f1, f2, p1, p2, t1, t2, tr, lw, _, _, _⟩ := hf
  have HC := Lib.hid hc; clear hc
  have n_lines := enc_len s.lines (by omega)
  have n_columns := enc_len s.columns (by omega)
  have n_top := enc_len s.top (by omega)
  have n_rows := enc_len s.rows (by omega)
  have n_left := enc_len s.left (by omega)
  have n_wide := enc_len s.wide (by omega)
  have n_pulse := enc_len s.pulse (by omega)
  have hlen : (encs s.nums).length = (enc s.lines.toNat).length + (enc s.columns.toNat).length + (enc s.top.toNat).length + (enc s.rows.toNat).length + (enc s.left.toNat).length + (enc s.wide.toNat).length + (enc s.pulse.toNat).length := by simp only [encs, Scr.nums, List.length_append, List.length_nil]; omega
  have hlist : encs s.nums = ((((((([] ++ enc s.lines.toNat) ++ enc s.columns.toNat) ++ enc s.top.toNat) ++ enc s.rows.toNat) ++ enc s.left.toNat) ++ enc s.wide.toNat) ++ enc s.pulse.toNat) := by simp [encs, Scr.nums]
  rw [hlen, hlist]; clear hlen hlist
  unfold Scr.val Scr.vals at *
  go_enter Try.func48, Try.ntmps48
  go_wp2_with fail
  refine (HC.out _).mono ?_; rintro e W ⟨rfl, hb⟩
  have B0 := Kit.kept hb (Kit.blk1 _ _)
  have HB := Lib.hid (Kit.then_ (Kit.below1 _ _) hb)
  have hz := hb.size; simp at hz
  clear hb
  have c0 : W.cell? ⟨w.heap.size, 0, none⟩ = some (.int .i64 s.lines) := Kit.cell B0 0 _ rfl
  have c1 : W.cell? ⟨w.heap.size, 1, none⟩ = some (.int .i64 s.columns) := Kit.cell B0 1 _ rfl
  have c2 : W.cell? ⟨w.heap.size, 2, none⟩ = some (.int .i64 s.top) := Kit.cell B0 2 _ rfl
  have c3 : W.cell? ⟨w.heap.size, 3, none⟩ = some (.int .i64 s.rows) := Kit.cell B0 3 _ rfl
  have c4 : W.cell? ⟨w.heap.size, 4, none⟩ = some (.int .i64 s.left) := Kit.cell B0 4 _ rfl
  have c5 : W.cell? ⟨w.heap.size, 5, none⟩ = some (.int .i64 s.wide) := Kit.cell B0 5 _ rfl
  have c6 : W.cell? ⟨w.heap.size, 6, none⟩ = some (.int .i64 s.pulse) := Kit.cell B0 6 _ rfl
  clear B0
  go_wp2_with fail
  refine wp_loop_rounds 8 ?_
  rw [rounds_succ]
  have L0 : Hid ((W.alloc (.cells #[.int .i64 s.lines, .int .i64 s.columns, .int .i64 s.top, .int .i64 s.rows, .int .i64 s.left, .int .i64 s.wide, .int .i64 s.pulse] 3 (0, 0))).heap[W.heap.size]? = some (.cells #[.int .i64 s.lines, .int .i64 s.columns, .int .i64 s.top, .int .i64 s.rows, .int .i64 s.left, .int .i64 s.wide, .int .i64 s.pulse] 3 (0, 0))) := Kit.blk1 _ _
  have Z0 : Hid (Below w.heap.size w (W.alloc (.cells #[.int .i64 s.lines, .int .i64 s.columns, .int .i64 s.top, .int .i64 s.rows, .int .i64 s.left, .int .i64 s.wide, .int .i64 s.pulse] 3 (0, 0)))) := HB.out.alloc (by omega) _
  have z0 : (W.alloc (.cells #[.int .i64 s.lines, .int .i64 s.columns, .int .i64 s.top, .int .i64 s.rows, .int .i64 s.left, .int .i64 s.wide, .int .i64 s.pulse] 3 (0, 0))).heap.size = W.heap.size + 1 := by simp
  generalize W.alloc (.cells #[.int .i64 s.lines, .int .i64 s.columns, .int .i64 s.top, .int .i64 s.rows, .int .i64 s.left, .int .i64 s.wide, .int .i64 s.pulse] 3 (0, 0)) = u0 at *
  have hz0 : W.heap.size + 1 ≤ u0.heap.size := by omega
  clear z0 c0 c1 c2 c3 c4 c5 c6 HB
  generalize W.heap.size = G at *
  have HO0 : Hid (u0.ownsRow (G + 1) 5 1 (.slice none 0 0) 0 (u8s [])) := World.ownsRow_nil _ _ _ _
  have x0 : u0.cell? ⟨G, 0, none⟩ = some (.int .i64 s.lines) := Kit.cell L0.out 0 _ rfl
  go_wp2_with fail
  refine (rmore_calls (G + 1) _ _ _ s.lines _ HO0.out (by omega) (by omega) (by omega) (by omega)).mono ?_; rintro e u1 ⟨v1, rfl, hown, hb⟩
  have hz1 := hb.size
  have L1 := Lib.hid (Kit.keep hb L0.out (by omega))
  have HO1 := Lib.hid hown
  have Z1 : Hid (Below w.heap.size w u1) := Z0.out.trans (hb.mono (by omega)); clear hown hb x0
  go_wp2_with fail
  rw [rounds_succ]
  have x1 : u1.cell? ⟨G, 1, none⟩ = some (.int .i64 s.columns) := Kit.cell L1.out 1 _ rfl
  go_wp2_with fail
  refine (rmore_calls (G + 1) _ _ _ s.columns _ HO1.out (by omega) (by omega) (by omega) (by omega)).mono ?_; rintro e u2 ⟨v2, rfl, hown, hb⟩
  have hz2 := hb.size
  have L2 := Lib.hid (Kit.keep hb L1.out (by omega))
  have HO2 := Lib.hid hown
  have Z2 : Hid (Below w.heap.size w u2) := Z1.out.trans (hb.mono (by omega)); clear hown hb x1
  go_wp2_with fail
  rw [rounds_succ]
  have x2 : u2.cell? ⟨G, 2, none⟩ = some (.int .i64 s.top) := Kit.cell L2.out 2 _ rfl
  go_wp2_with fail
  refine (rmore_calls (G + 1) _ _ _ s.top _ HO2.out (by omega) (by omega) (by omega) (by omega)).mono ?_; rintro e u3 ⟨v3, rfl, hown, hb⟩
  have hz3 := hb.size
  have L3 := Lib.hid (Kit.keep hb L2.out (by omega))
  have HO3 := Lib.hid hown
  have Z3 : Hid (Below w.heap.size w u3) := Z2.out.trans (hb.mono (by omega)); clear hown hb x2
  go_wp2_with fail
  rw [rounds_succ]
  have x3 : u3.cell? ⟨G, 3, none⟩ = some (.int .i64 s.rows) := Kit.cell L3.out 3 _ rfl
  go_wp2_with fail
  refine (rmore_calls (G + 1) _ _ _ s.rows _ HO3.out (by omega) (by omega) (by omega) (by omega)).mono ?_; rintro e u4 ⟨v4, rfl, hown, hb⟩
  have hz4 := hb.size
  have L4 := Lib.hid (Kit.keep hb L3.out (by omega))
  have HO4 := Lib.hid hown
  have Z4 : Hid (Below w.heap.size w u4) := Z3.out.trans (hb.mono (by omega)); clear hown hb x3
  go_wp2_with fail
  rw [rounds_succ]
  have x4 : u4.cell? ⟨G, 4, none⟩ = some (.int .i64 s.left) := Kit.cell L4.out 4 _ rfl
  go_wp2_with fail
  refine (rmore_calls (G + 1) _ _ _ s.left _ HO4.out (by omega) (by omega) (by omega) (by omega)).mono ?_; rintro e u5 ⟨v5, rfl, hown, hb⟩
  have hz5 := hb.size
  have L5 := Lib.hid (Kit.keep hb L4.out (by omega))
  have HO5 := Lib.hid hown
  have Z5 : Hid (Below w.heap.size w u5) := Z4.out.trans (hb.mono (by omega)); clear hown hb x4
  go_wp2_with fail
  rw [rounds_succ]
  have x5 : u5.cell? ⟨G, 5, none⟩ = some (.int .i64 s.wide) := Kit.cell L5.out 5 _ rfl
  go_wp2_with fail
  refine (rmore_calls (G + 1) _ _ _ s.wide _ HO5.out (by omega) (by omega) (by omega) (by omega)).mono ?_; rintro e u6 ⟨v6, rfl, hown, hb⟩
  have hz6 := hb.size
  have L6 := Lib.hid (Kit.keep hb L5.out (by omega))
  have HO6 := Lib.hid hown
  have Z6 : Hid (Below w.heap.size w u6) := Z5.out.trans (hb.mono (by omega)); clear hown hb x5
  go_wp2_with fail
  rw [rounds_succ]
  have x6 : u6.cell? ⟨G, 6, none⟩ = some (.int .i64 s.pulse) := Kit.cell L6.out 6 _ rfl
  go_wp2_with fail
  refine (rmore_calls (G + 1) _ _ _ s.pulse _ HO6.out (by omega) (by omega) (by omega) (by omega)).mono ?_; rintro e u7 ⟨v7, rfl, hown, hb⟩
  have hz7 := hb.size
  have L7 := Lib.hid (Kit.keep hb L6.out (by omega))
  have HO7 := Lib.hid hown
  have Z7 : Hid (Below w.heap.size w u7) := Z6.out.trans (hb.mono (by omega)); clear hown hb x6
  go_wp2_with fail
  rw [rounds_succ]
  go_wp2_with fail
  go_ret2
  exact ⟨_, rfl, by simpa using Kit.own_lower HO7.out (show w.heap.size ≤ G + 1 by omega), Z7.out⟩
end Go.Proofs.YthbbbmomlehimaaR.Ts
