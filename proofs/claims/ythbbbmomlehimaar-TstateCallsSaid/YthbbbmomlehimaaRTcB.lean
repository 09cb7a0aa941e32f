import Derived.Test.YthbbbmomlehimaaRTcA
import Derived.Deep.Cut
set_option linter.unusedVariables false
namespace Go.Proofs.YthbbbmomlehimaaR.Ts
open Go.RowKit Oc

set_option maxRecDepth 100000 in
theorem tcalls_long (s : Scr) (t u : Int) (p : Spt) (A : Option Addr) (n c : Nat) (w : World) (hn : 300 < n) :
    Calls Try.prog 8 #[s.val, .int .i64 t, .int .i64 u, p.val, .slice A n c] w fun e w' => e = .returned (.bool true) ∧ Below w.heap.size w w' := by
  have d1 : decide ((300 : Int) < n) = true := decide_eq_true (by omega)
  unfold Scr.val Scr.vals Spt.val at *
  go_enter Try.func8, Try.ntmps8
  go_wp2_with fail
  refine (lives02_calls _).mono ?_; rintro e u1 ⟨rfl, hb⟩
  have HB := Lib.hid (Kit.then_ (Kit.below2 _ _ _) hb); clear hb
  go_wp2_with fail
  go_ret
  exact ⟨rfl, HB.out⟩

set_option maxRecDepth 100000 in
set_option maxHeartbeats 8000000 in
theorem tcalls_short (s : Scr) (t u : Int) (p : Spt) (A : Option Addr) (n c : Nat) (l : List Int) (w : World) (hba : BytesAt w A n l) (hn : n ≤ 300) (hcf : NilFit A c) (hl : ∀ b ∈ l, 0 ≤ b ∧ b < 256) :
    Calls Try.prog 8 #[s.val, .int .i64 t, .int .i64 u, p.val, .slice A n c] w fun e w' => e = .returned (.bool true) ∧ Below w.heap.size w w' := by
  have HSP := Lib.hid (spot_all s t); have HRS := Lib.hid (rspot_all s t)
  have HTI := Lib.hid (time_all s p); have HRT := Lib.hid (rtime_all s p)
  have HNX := Lib.hid (next_calls s t); have HRN := Lib.hid (rnext_calls s t)
  have HBY := Lib.hid (bytes_all s); have HRB := Lib.hid (rbytes_all s)
  have HCK := Lib.hid (check_calls s); have HRC := Lib.hid (ref02_calls s)
  have HLE := Lib.hid (length_calls s); have HRL := Lib.hid (ref02_length s)
  have HPU := Lib.hid (pulse_calls s t); have HRP := Lib.hid (rpulse_calls s t)
  have HPS := Lib.hid (pulses_calls s t u); have HRQ := Lib.hid (rpulses_calls s t u)
  have HRD : Hid (∀ A c w, BytesAt w A n l → Calls Try.prog 39 #[.slice A n c] w fun e w' => e = .returned (.tuple #[(readS l).val, .int .i64 (readC l)]) ∧ Below w.heap.size w w') := fun A c w h => by rw [← readVal_eq]; exact read_calls A n c l w h (by omega) hl
  have HRR : Hid (∀ w, BytesAt w A n l → Calls Try.prog 50 #[.slice A n c] w fun e w' => e = .returned (.tuple #[(readS l).val, .int .i64 (readC l)]) ∧ Below w.heap.size w w') := fun w h => by rw [← readVal_eq, ← rread_eq]; exact rread_calls ref02_calls A n c l w h (by omega) hcf hl
  have HOW : Hid (∀ w, BytesAt w A n l → Calls Try.prog 49 #[.slice A n c] w fun e w' => ∃ v, e = .returned v ∧ w'.ownsRow w.heap.size 5 1 v n (u8s l) ∧ Below w.heap.size w w') := fun w h => own_calls A n c l w h (by omega) hcf
  have HL := Lib.hid hl; have HCF := Lib.hid hcf; have HBA := Lib.hid hba; clear hl hcf hba
  generalize s.spotV t = sp at *; generalize s.spotE t = se at *; generalize s.timeV p = ti at *; generalize s.timeE p = te at *
  generalize (s.nextV t).1 = nx at *; generalize (s.nextV t).2 = ni at *
  generalize s.bys = by_ at *; generalize s.code = co at *; generalize s.len = le at *; generalize s.pulseB t = pb at *; generalize s.pulsV t u = pq at *
  generalize readS l = rs at *; generalize readC l = rc at *
  have d1 : decide ((300 : Int) < n) = false := decide_eq_false (by omega)
  unfold Scr.val Scr.vals Spt.val at *
  go_enter Try.func8, Try.ntmps8
  go_wp2_with fail
  generalize hW : (w.alloc (.cells #[.int .i64 s.lines, .int .i64 s.columns, .int .i64 s.top, .int .i64 s.rows, .int .i64 s.left, .int .i64 s.wide, .int .i64 s.pulse] 40 (0, 0))).alloc (.cells #[.int .i64 p.frame, .int .i64 p.line, .int .i64 p.col] 67 (0, 0)) = v0
  have B0 : Hid (v0.heap[w.heap.size]? = some (.cells #[.int .i64 s.lines, .int .i64 s.columns, .int .i64 s.top, .int .i64 s.rows, .int .i64 s.left, .int .i64 s.wide, .int .i64 s.pulse] 40 (0, 0))) := by rw [← hW]; exact Kit.blk2a _ _ _
  have B1 : Hid (v0.heap[w.heap.size + 1]? = some (.cells #[.int .i64 p.frame, .int .i64 p.line, .int .i64 p.col] 67 (0, 0))) := by rw [← hW]; exact Kit.blk2b _ _ _
  have Z0 : Hid (Below w.heap.size w v0) := by rw [← hW]; exact Kit.below2 _ _ _
  have BA0 := Lib.hid (HBA.out.below Z0.out)
  clear hW HBA
  refine (lives02_calls _).mono ?_; rintro e u1 ⟨rfl, hb⟩
  have BA1_0 := Lib.hid ((BA0.out).below hb)
  have B1_0 := Lib.hid (Kit.kept hb B0.out)
  have B1_1 := Lib.hid (Kit.kept hb B1.out)
  have Z1 := Lib.hid (Kit.then_ (Z0.out) hb); clear hb
  have l2_0 := Kit.lt B1_0.out
  have c2_0_0 : u1.cell? ⟨w.heap.size, 0, none⟩ = some (.int .i64 s.lines) := Kit.cell B1_0.out 0 _ rfl
  have c2_0_1 : u1.cell? ⟨w.heap.size, 1, none⟩ = some (.int .i64 s.columns) := Kit.cell B1_0.out 1 _ rfl
  have c2_0_2 : u1.cell? ⟨w.heap.size, 2, none⟩ = some (.int .i64 s.top) := Kit.cell B1_0.out 2 _ rfl
  have c2_0_3 : u1.cell? ⟨w.heap.size, 3, none⟩ = some (.int .i64 s.rows) := Kit.cell B1_0.out 3 _ rfl
  have c2_0_4 : u1.cell? ⟨w.heap.size, 4, none⟩ = some (.int .i64 s.left) := Kit.cell B1_0.out 4 _ rfl
  have c2_0_5 : u1.cell? ⟨w.heap.size, 5, none⟩ = some (.int .i64 s.wide) := Kit.cell B1_0.out 5 _ rfl
  have c2_0_6 : u1.cell? ⟨w.heap.size, 6, none⟩ = some (.int .i64 s.pulse) := Kit.cell B1_0.out 6 _ rfl
  have l2_1 := Kit.lt B1_1.out
  have z2 := (Z1.out).size
  go_wp2_with fail
  clear l2_0 c2_0_0 c2_0_1 c2_0_2 c2_0_3 c2_0_4 c2_0_5 c2_0_6 l2_1 z2
  refine (HSP.out _).mono ?_; rintro e u3 ⟨rfl, hb⟩
  have BA3_0 := Lib.hid ((BA1_0.out).below hb)
  have B3_0 := Lib.hid (Kit.kept hb B1_0.out)
  have B3_1 := Lib.hid (Kit.kept hb B1_1.out)
  have Z3 := Lib.hid (Kit.then_ (Z1.out) hb); clear hb
  have l4_0 := Kit.lt B3_0.out
  have c4_0_0 : u3.cell? ⟨w.heap.size, 0, none⟩ = some (.int .i64 s.lines) := Kit.cell B3_0.out 0 _ rfl
  have c4_0_1 : u3.cell? ⟨w.heap.size, 1, none⟩ = some (.int .i64 s.columns) := Kit.cell B3_0.out 1 _ rfl
  have c4_0_2 : u3.cell? ⟨w.heap.size, 2, none⟩ = some (.int .i64 s.top) := Kit.cell B3_0.out 2 _ rfl
  have c4_0_3 : u3.cell? ⟨w.heap.size, 3, none⟩ = some (.int .i64 s.rows) := Kit.cell B3_0.out 3 _ rfl
  have c4_0_4 : u3.cell? ⟨w.heap.size, 4, none⟩ = some (.int .i64 s.left) := Kit.cell B3_0.out 4 _ rfl
  have c4_0_5 : u3.cell? ⟨w.heap.size, 5, none⟩ = some (.int .i64 s.wide) := Kit.cell B3_0.out 5 _ rfl
  have c4_0_6 : u3.cell? ⟨w.heap.size, 6, none⟩ = some (.int .i64 s.pulse) := Kit.cell B3_0.out 6 _ rfl
  have l4_1 := Kit.lt B3_1.out
  have z4 := (Z3.out).size
  go_wp2_with fail
  clear l4_0 c4_0_0 c4_0_1 c4_0_2 c4_0_3 c4_0_4 c4_0_5 c4_0_6 l4_1 z4
  generalize hW : World.alloc u3 (.cells #[.int .i64 sp.frame, .int .i64 sp.line, .int .i64 sp.col] 67 (0, 0)) = u5
  have B5_0 : Hid (u5.heap[w.heap.size]? = some (.cells #[.int .i64 s.lines, .int .i64 s.columns, .int .i64 s.top, .int .i64 s.rows, .int .i64 s.left, .int .i64 s.wide, .int .i64 s.pulse] 40 (0, 0))) := by rw [← hW]; exact Kit.blk_old B3_0.out _
  have B5_1 : Hid (u5.heap[(w.heap.size + 1)]? = some (.cells #[.int .i64 p.frame, .int .i64 p.line, .int .i64 p.col] 67 (0, 0))) := by rw [← hW]; exact Kit.blk_old B3_1.out _
  have B5_n : Hid (u5.heap[u3.heap.size]? = some (.cells #[.int .i64 sp.frame, .int .i64 sp.line, .int .i64 sp.col] 67 (0, 0))) := by rw [← hW]; exact Kit.blk1 _ _
  have Z5 : Hid (Below w.heap.size w u5) := by rw [← hW]; exact (Z3.out).alloc (Z3.out).size _
  have BA5_0 : Hid (BytesAt u5 A n l) := by rw [← hW]; exact (BA3_0.out).below (Kit.below1 _ _)
  clear hW
  have yX := (Z3.out).size
  have m5_0 := Kit.lt B3_0.out
  have m5_1 := Kit.lt B3_1.out
  generalize u3.heap.size = X at *
  refine (HRS.out _).mono ?_; rintro e u6 ⟨rfl, hb⟩
  have BA6_0 := Lib.hid ((BA5_0.out).below hb)
  have B6_0 := Lib.hid (Kit.kept hb B5_0.out)
  have B6_1 := Lib.hid (Kit.kept hb B5_1.out)
  have B6_2 := Lib.hid (Kit.kept hb B5_n.out)
  have Z6 := Lib.hid (Kit.then_ (Z5.out) hb); clear hb
  have l7_0 := Kit.lt B6_0.out
  have c7_0_0 : u6.cell? ⟨w.heap.size, 0, none⟩ = some (.int .i64 s.lines) := Kit.cell B6_0.out 0 _ rfl
  have c7_0_1 : u6.cell? ⟨w.heap.size, 1, none⟩ = some (.int .i64 s.columns) := Kit.cell B6_0.out 1 _ rfl
  have c7_0_2 : u6.cell? ⟨w.heap.size, 2, none⟩ = some (.int .i64 s.top) := Kit.cell B6_0.out 2 _ rfl
  have c7_0_3 : u6.cell? ⟨w.heap.size, 3, none⟩ = some (.int .i64 s.rows) := Kit.cell B6_0.out 3 _ rfl
  have c7_0_4 : u6.cell? ⟨w.heap.size, 4, none⟩ = some (.int .i64 s.left) := Kit.cell B6_0.out 4 _ rfl
  have c7_0_5 : u6.cell? ⟨w.heap.size, 5, none⟩ = some (.int .i64 s.wide) := Kit.cell B6_0.out 5 _ rfl
  have c7_0_6 : u6.cell? ⟨w.heap.size, 6, none⟩ = some (.int .i64 s.pulse) := Kit.cell B6_0.out 6 _ rfl
  have l7_1 := Kit.lt B6_1.out
  have c7_1_0 : u6.cell? ⟨(w.heap.size + 1), 0, none⟩ = some (.int .i64 p.frame) := Kit.cell B6_1.out 0 _ rfl
  have c7_1_1 : u6.cell? ⟨(w.heap.size + 1), 1, none⟩ = some (.int .i64 p.line) := Kit.cell B6_1.out 1 _ rfl
  have c7_1_2 : u6.cell? ⟨(w.heap.size + 1), 2, none⟩ = some (.int .i64 p.col) := Kit.cell B6_1.out 2 _ rfl
  have l7_2 := Kit.lt B6_2.out
  have z7 := (Z6.out).size
  go_wp2_with fail
  clear l7_0 c7_0_0 c7_0_1 c7_0_2 c7_0_3 c7_0_4 c7_0_5 c7_0_6 l7_1 c7_1_0 c7_1_1 c7_1_2 l7_2 z7
  generalize hW : World.alloc u6 (.cells #[.int .i64 sp.frame, .int .i64 sp.line, .int .i64 sp.col] 67 (0, 0)) = u8
  have B8_0 : Hid (u8.heap[w.heap.size]? = some (.cells #[.int .i64 s.lines, .int .i64 s.columns, .int .i64 s.top, .int .i64 s.rows, .int .i64 s.left, .int .i64 s.wide, .int .i64 s.pulse] 40 (0, 0))) := by rw [← hW]; exact Kit.blk_old B6_0.out _
  have B8_1 : Hid (u8.heap[(w.heap.size + 1)]? = some (.cells #[.int .i64 p.frame, .int .i64 p.line, .int .i64 p.col] 67 (0, 0))) := by rw [← hW]; exact Kit.blk_old B6_1.out _
  have B8_2 : Hid (u8.heap[X]? = some (.cells #[.int .i64 sp.frame, .int .i64 sp.line, .int .i64 sp.col] 67 (0, 0))) := by rw [← hW]; exact Kit.blk_old B6_2.out _
  have B8_n : Hid (u8.heap[u6.heap.size]? = some (.cells #[.int .i64 sp.frame, .int .i64 sp.line, .int .i64 sp.col] 67 (0, 0))) := by rw [← hW]; exact Kit.blk1 _ _
  have Z8 : Hid (Below w.heap.size w u8) := by rw [← hW]; exact (Z6.out).alloc (Z6.out).size _
  have BA8_0 : Hid (BytesAt u8 A n l) := by rw [← hW]; exact (BA6_0.out).below (Kit.below1 _ _)
  clear hW
  have yY := (Z6.out).size
  have m8_0 := Kit.lt B6_0.out
  have m8_1 := Kit.lt B6_1.out
  have m8_2 := Kit.lt B6_2.out
  generalize u6.heap.size = Y at *
  refine (HTI.out _).mono ?_; rintro e u9 ⟨rfl, hb⟩
  have BA9_0 := Lib.hid ((BA8_0.out).below hb)
  have B9_0 := Lib.hid (Kit.kept hb B8_0.out)
  have B9_1 := Lib.hid (Kit.kept hb B8_1.out)
  have B9_2 := Lib.hid (Kit.kept hb B8_2.out)
  have B9_3 := Lib.hid (Kit.kept hb B8_n.out)
  have Z9 := Lib.hid (Kit.then_ (Z8.out) hb); clear hb
  have l10_0 := Kit.lt B9_0.out
  have c10_0_0 : u9.cell? ⟨w.heap.size, 0, none⟩ = some (.int .i64 s.lines) := Kit.cell B9_0.out 0 _ rfl
  have c10_0_1 : u9.cell? ⟨w.heap.size, 1, none⟩ = some (.int .i64 s.columns) := Kit.cell B9_0.out 1 _ rfl
  have c10_0_2 : u9.cell? ⟨w.heap.size, 2, none⟩ = some (.int .i64 s.top) := Kit.cell B9_0.out 2 _ rfl
  have c10_0_3 : u9.cell? ⟨w.heap.size, 3, none⟩ = some (.int .i64 s.rows) := Kit.cell B9_0.out 3 _ rfl
  have c10_0_4 : u9.cell? ⟨w.heap.size, 4, none⟩ = some (.int .i64 s.left) := Kit.cell B9_0.out 4 _ rfl
  have c10_0_5 : u9.cell? ⟨w.heap.size, 5, none⟩ = some (.int .i64 s.wide) := Kit.cell B9_0.out 5 _ rfl
  have c10_0_6 : u9.cell? ⟨w.heap.size, 6, none⟩ = some (.int .i64 s.pulse) := Kit.cell B9_0.out 6 _ rfl
  have l10_1 := Kit.lt B9_1.out
  have c10_1_0 : u9.cell? ⟨(w.heap.size + 1), 0, none⟩ = some (.int .i64 p.frame) := Kit.cell B9_1.out 0 _ rfl
  have c10_1_1 : u9.cell? ⟨(w.heap.size + 1), 1, none⟩ = some (.int .i64 p.line) := Kit.cell B9_1.out 1 _ rfl
  have c10_1_2 : u9.cell? ⟨(w.heap.size + 1), 2, none⟩ = some (.int .i64 p.col) := Kit.cell B9_1.out 2 _ rfl
  have l10_2 := Kit.lt B9_2.out
  have l10_3 := Kit.lt B9_3.out
  have z10 := (Z9.out).size
  go_wp2_with fail
  clear l10_0 c10_0_0 c10_0_1 c10_0_2 c10_0_3 c10_0_4 c10_0_5 c10_0_6 l10_1 c10_1_0 c10_1_1 c10_1_2 l10_2 l10_3 z10
  refine (HRT.out _).mono ?_; rintro e u11 ⟨rfl, hb⟩
  have BA11_0 := Lib.hid ((BA9_0.out).below hb)
  have B11_0 := Lib.hid (Kit.kept hb B9_0.out)
  have B11_1 := Lib.hid (Kit.kept hb B9_1.out)
  have B11_2 := Lib.hid (Kit.kept hb B9_2.out)
  have B11_3 := Lib.hid (Kit.kept hb B9_3.out)
  have Z11 := Lib.hid (Kit.then_ (Z9.out) hb); clear hb
  have l12_0 := Kit.lt B11_0.out
  have c12_0_0 : u11.cell? ⟨w.heap.size, 0, none⟩ = some (.int .i64 s.lines) := Kit.cell B11_0.out 0 _ rfl
  have c12_0_1 : u11.cell? ⟨w.heap.size, 1, none⟩ = some (.int .i64 s.columns) := Kit.cell B11_0.out 1 _ rfl
  have c12_0_2 : u11.cell? ⟨w.heap.size, 2, none⟩ = some (.int .i64 s.top) := Kit.cell B11_0.out 2 _ rfl
  have c12_0_3 : u11.cell? ⟨w.heap.size, 3, none⟩ = some (.int .i64 s.rows) := Kit.cell B11_0.out 3 _ rfl
  have c12_0_4 : u11.cell? ⟨w.heap.size, 4, none⟩ = some (.int .i64 s.left) := Kit.cell B11_0.out 4 _ rfl
  have c12_0_5 : u11.cell? ⟨w.heap.size, 5, none⟩ = some (.int .i64 s.wide) := Kit.cell B11_0.out 5 _ rfl
  have c12_0_6 : u11.cell? ⟨w.heap.size, 6, none⟩ = some (.int .i64 s.pulse) := Kit.cell B11_0.out 6 _ rfl
  have l12_1 := Kit.lt B11_1.out
  have c12_1_0 : u11.cell? ⟨(w.heap.size + 1), 0, none⟩ = some (.int .i64 p.frame) := Kit.cell B11_1.out 0 _ rfl
  have c12_1_1 : u11.cell? ⟨(w.heap.size + 1), 1, none⟩ = some (.int .i64 p.line) := Kit.cell B11_1.out 1 _ rfl
  have c12_1_2 : u11.cell? ⟨(w.heap.size + 1), 2, none⟩ = some (.int .i64 p.col) := Kit.cell B11_1.out 2 _ rfl
  have l12_2 := Kit.lt B11_2.out
  have l12_3 := Kit.lt B11_3.out
  have z12 := (Z11.out).size
  go_wp2_with fail
  clear l12_0 c12_0_0 c12_0_1 c12_0_2 c12_0_3 c12_0_4 c12_0_5 c12_0_6 l12_1 c12_1_0 c12_1_1 c12_1_2 l12_2 l12_3 z12
  refine (HNX.out _).mono ?_; rintro e u13 ⟨rfl, hb⟩
  have BA13_0 := Lib.hid ((BA11_0.out).below hb)
  have B13_0 := Lib.hid (Kit.kept hb B11_0.out)
  have B13_1 := Lib.hid (Kit.kept hb B11_1.out)
  have B13_2 := Lib.hid (Kit.kept hb B11_2.out)
  have B13_3 := Lib.hid (Kit.kept hb B11_3.out)
  have Z13 := Lib.hid (Kit.then_ (Z11.out) hb); clear hb
  have l14_0 := Kit.lt B13_0.out
  have c14_0_0 : u13.cell? ⟨w.heap.size, 0, none⟩ = some (.int .i64 s.lines) := Kit.cell B13_0.out 0 _ rfl
  have c14_0_1 : u13.cell? ⟨w.heap.size, 1, none⟩ = some (.int .i64 s.columns) := Kit.cell B13_0.out 1 _ rfl
  have c14_0_2 : u13.cell? ⟨w.heap.size, 2, none⟩ = some (.int .i64 s.top) := Kit.cell B13_0.out 2 _ rfl
  have c14_0_3 : u13.cell? ⟨w.heap.size, 3, none⟩ = some (.int .i64 s.rows) := Kit.cell B13_0.out 3 _ rfl
  have c14_0_4 : u13.cell? ⟨w.heap.size, 4, none⟩ = some (.int .i64 s.left) := Kit.cell B13_0.out 4 _ rfl
  have c14_0_5 : u13.cell? ⟨w.heap.size, 5, none⟩ = some (.int .i64 s.wide) := Kit.cell B13_0.out 5 _ rfl
  have c14_0_6 : u13.cell? ⟨w.heap.size, 6, none⟩ = some (.int .i64 s.pulse) := Kit.cell B13_0.out 6 _ rfl
  have l14_1 := Kit.lt B13_1.out
  have l14_2 := Kit.lt B13_2.out
  have l14_3 := Kit.lt B13_3.out
  have z14 := (Z13.out).size
  go_wp2_with fail
  clear l14_0 c14_0_0 c14_0_1 c14_0_2 c14_0_3 c14_0_4 c14_0_5 c14_0_6 l14_1 l14_2 l14_3 z14
  refine (HRN.out _).mono ?_; rintro e u15 ⟨rfl, hb⟩
  have BA15_0 := Lib.hid ((BA13_0.out).below hb)
  have B15_0 := Lib.hid (Kit.kept hb B13_0.out)
  have B15_1 := Lib.hid (Kit.kept hb B13_1.out)
  have B15_2 := Lib.hid (Kit.kept hb B13_2.out)
  have B15_3 := Lib.hid (Kit.kept hb B13_3.out)
  have Z15 := Lib.hid (Kit.then_ (Z13.out) hb); clear hb
  have l16_0 := Kit.lt B15_0.out
  have c16_0_0 : u15.cell? ⟨w.heap.size, 0, none⟩ = some (.int .i64 s.lines) := Kit.cell B15_0.out 0 _ rfl
  have c16_0_1 : u15.cell? ⟨w.heap.size, 1, none⟩ = some (.int .i64 s.columns) := Kit.cell B15_0.out 1 _ rfl
  have c16_0_2 : u15.cell? ⟨w.heap.size, 2, none⟩ = some (.int .i64 s.top) := Kit.cell B15_0.out 2 _ rfl
  have c16_0_3 : u15.cell? ⟨w.heap.size, 3, none⟩ = some (.int .i64 s.rows) := Kit.cell B15_0.out 3 _ rfl
  have c16_0_4 : u15.cell? ⟨w.heap.size, 4, none⟩ = some (.int .i64 s.left) := Kit.cell B15_0.out 4 _ rfl
  have c16_0_5 : u15.cell? ⟨w.heap.size, 5, none⟩ = some (.int .i64 s.wide) := Kit.cell B15_0.out 5 _ rfl
  have c16_0_6 : u15.cell? ⟨w.heap.size, 6, none⟩ = some (.int .i64 s.pulse) := Kit.cell B15_0.out 6 _ rfl
  have l16_1 := Kit.lt B15_1.out
  have l16_2 := Kit.lt B15_2.out
  have l16_3 := Kit.lt B15_3.out
  have z16 := (Z15.out).size
  go_wp2_with fail
  clear l16_0 c16_0_0 c16_0_1 c16_0_2 c16_0_3 c16_0_4 c16_0_5 c16_0_6 l16_1 l16_2 l16_3 z16
  refine (HBY.out _).mono ?_; rintro e u17 ⟨v1, rfl, hown, hb⟩
  obtain ⟨A1, c1, rfl, hc1, hba⟩ := BytesAt.of_own hown; have BAv := Lib.hid hba; clear hba hown
  have BA17_0 := Lib.hid ((BA15_0.out).below hb)
  have B17_0 := Lib.hid (Kit.kept hb B15_0.out)
  have B17_1 := Lib.hid (Kit.kept hb B15_1.out)
  have B17_2 := Lib.hid (Kit.kept hb B15_2.out)
  have B17_3 := Lib.hid (Kit.kept hb B15_3.out)
  have Z17 := Lib.hid (Kit.then_ (Z15.out) hb); clear hb
  have l18_0 := Kit.lt B17_0.out
  have c18_0_0 : u17.cell? ⟨w.heap.size, 0, none⟩ = some (.int .i64 s.lines) := Kit.cell B17_0.out 0 _ rfl
  have c18_0_1 : u17.cell? ⟨w.heap.size, 1, none⟩ = some (.int .i64 s.columns) := Kit.cell B17_0.out 1 _ rfl
  have c18_0_2 : u17.cell? ⟨w.heap.size, 2, none⟩ = some (.int .i64 s.top) := Kit.cell B17_0.out 2 _ rfl
  have c18_0_3 : u17.cell? ⟨w.heap.size, 3, none⟩ = some (.int .i64 s.rows) := Kit.cell B17_0.out 3 _ rfl
  have c18_0_4 : u17.cell? ⟨w.heap.size, 4, none⟩ = some (.int .i64 s.left) := Kit.cell B17_0.out 4 _ rfl
  have c18_0_5 : u17.cell? ⟨w.heap.size, 5, none⟩ = some (.int .i64 s.wide) := Kit.cell B17_0.out 5 _ rfl
  have c18_0_6 : u17.cell? ⟨w.heap.size, 6, none⟩ = some (.int .i64 s.pulse) := Kit.cell B17_0.out 6 _ rfl
  have l18_1 := Kit.lt B17_1.out
  have l18_2 := Kit.lt B17_2.out
  have l18_3 := Kit.lt B17_3.out
  have z18 := (Z17.out).size
  go_wp2_with fail
  clear l18_0 c18_0_0 c18_0_1 c18_0_2 c18_0_3 c18_0_4 c18_0_5 c18_0_6 l18_1 l18_2 l18_3 z18
  refine (HRB.out _).mono ?_; rintro e u19 ⟨v2, rfl, hown, hb⟩
  obtain ⟨A2, c2, rfl, hc2, hba⟩ := BytesAt.of_own hown; have BAr := Lib.hid hba; clear hba hown
  have BA19_0 := Lib.hid ((BA17_0.out).below hb)
  have BA19_1 := Lib.hid ((BAv.out).below hb)
  have B19_0 := Lib.hid (Kit.kept hb B17_0.out)
  have B19_1 := Lib.hid (Kit.kept hb B17_1.out)
  have B19_2 := Lib.hid (Kit.kept hb B17_2.out)
  have B19_3 := Lib.hid (Kit.kept hb B17_3.out)
  have Z19 := Lib.hid (Kit.then_ (Z17.out) hb); clear hb
  have l20_0 := Kit.lt B19_0.out
  have l20_1 := Kit.lt B19_1.out
  have l20_2 := Kit.lt B19_2.out
  have l20_3 := Kit.lt B19_3.out
  have z20 := (Z19.out).size
  go_wp2_with fail
  clear l20_0 l20_1 l20_2 l20_3 z20
  refine (HOW.out _ BA19_0.out).mono ?_; rintro e u21 ⟨v3, rfl, hown, hb⟩
  obtain ⟨A3, c3, rfl, hc3, hba⟩ := BytesAt.of_own hown; have BAo := Lib.hid hba; clear hba hown
  have BA21_0 := Lib.hid ((BA19_0.out).below hb)
  have BA21_1 := Lib.hid ((BA19_1.out).below hb)
  have BA21_2 := Lib.hid ((BAr.out).below hb)
  have B21_0 := Lib.hid (Kit.kept hb B19_0.out)
  have B21_1 := Lib.hid (Kit.kept hb B19_1.out)
  have B21_2 := Lib.hid (Kit.kept hb B19_2.out)
  have B21_3 := Lib.hid (Kit.kept hb B19_3.out)
  have Z21 := Lib.hid (Kit.then_ (Z19.out) hb); clear hb
  have l22_0 := Kit.lt B21_0.out
  have l22_1 := Kit.lt B21_1.out
  have l22_2 := Kit.lt B21_2.out
  have l22_3 := Kit.lt B21_3.out
  have z22 := (Z21.out).size
  go_wp2_with fail
  clear l22_0 l22_1 l22_2 l22_3 z22
  refine (HRD.out _ _ _ BAo.out).mono ?_; rintro e u23 ⟨rfl, hb⟩
  have BA23_0 := Lib.hid ((BA21_0.out).below hb)
  have BA23_1 := Lib.hid ((BA21_1.out).below hb)
  have BA23_2 := Lib.hid ((BA21_2.out).below hb)
  have BA23_3 := Lib.hid ((BAo.out).below hb)
  have B23_0 := Lib.hid (Kit.kept hb B21_0.out)
  have B23_1 := Lib.hid (Kit.kept hb B21_1.out)
  have B23_2 := Lib.hid (Kit.kept hb B21_2.out)
  have B23_3 := Lib.hid (Kit.kept hb B21_3.out)
  have Z23 := Lib.hid (Kit.then_ (Z21.out) hb); clear hb
  have l24_0 := Kit.lt B23_0.out
  have l24_1 := Kit.lt B23_1.out
  have l24_2 := Kit.lt B23_2.out
  have l24_3 := Kit.lt B23_3.out
  have z24 := (Z23.out).size
  go_wp2_with fail
  clear l24_0 l24_1 l24_2 l24_3 z24
  generalize hW : World.alloc u23 (.cells #[.int .i64 rs.lines, .int .i64 rs.columns, .int .i64 rs.top, .int .i64 rs.rows, .int .i64 rs.left, .int .i64 rs.wide, .int .i64 rs.pulse] 40 (0, 0)) = u25
  have B25_0 : Hid (u25.heap[w.heap.size]? = some (.cells #[.int .i64 s.lines, .int .i64 s.columns, .int .i64 s.top, .int .i64 s.rows, .int .i64 s.left, .int .i64 s.wide, .int .i64 s.pulse] 40 (0, 0))) := by rw [← hW]; exact Kit.blk_old B23_0.out _
  have B25_1 : Hid (u25.heap[(w.heap.size + 1)]? = some (.cells #[.int .i64 p.frame, .int .i64 p.line, .int .i64 p.col] 67 (0, 0))) := by rw [← hW]; exact Kit.blk_old B23_1.out _
  have B25_2 : Hid (u25.heap[X]? = some (.cells #[.int .i64 sp.frame, .int .i64 sp.line, .int .i64 sp.col] 67 (0, 0))) := by rw [← hW]; exact Kit.blk_old B23_2.out _
  have B25_3 : Hid (u25.heap[Y]? = some (.cells #[.int .i64 sp.frame, .int .i64 sp.line, .int .i64 sp.col] 67 (0, 0))) := by rw [← hW]; exact Kit.blk_old B23_3.out _
  have B25_n : Hid (u25.heap[u23.heap.size]? = some (.cells #[.int .i64 rs.lines, .int .i64 rs.columns, .int .i64 rs.top, .int .i64 rs.rows, .int .i64 rs.left, .int .i64 rs.wide, .int .i64 rs.pulse] 40 (0, 0))) := by rw [← hW]; exact Kit.blk1 _ _
  have Z25 : Hid (Below w.heap.size w u25) := by rw [← hW]; exact (Z23.out).alloc (Z23.out).size _
  have BA25_0 : Hid (BytesAt u25 A n l) := by rw [← hW]; exact (BA23_0.out).below (Kit.below1 _ _)
  have BA25_1 : Hid (BytesAt u25 A1 by_.length by_) := by rw [← hW]; exact (BA23_1.out).below (Kit.below1 _ _)
  have BA25_2 : Hid (BytesAt u25 A2 by_.length by_) := by rw [← hW]; exact (BA23_2.out).below (Kit.below1 _ _)
  have BA25_3 : Hid (BytesAt u25 A3 n l) := by rw [← hW]; exact (BA23_3.out).below (Kit.below1 _ _)
  clear hW
  have yQ := (Z23.out).size
  have m25_0 := Kit.lt B23_0.out
  have m25_1 := Kit.lt B23_1.out
  have m25_2 := Kit.lt B23_2.out
  have m25_3 := Kit.lt B23_3.out
  generalize u23.heap.size = Q at *
  refine (HRR.out _ BA25_0.out).mono ?_; rintro e u26 ⟨rfl, hb⟩
  have BA26_0 := Lib.hid ((BA25_0.out).below hb)
  have BA26_1 := Lib.hid ((BA25_1.out).below hb)
  have BA26_2 := Lib.hid ((BA25_2.out).below hb)
  have BA26_3 := Lib.hid ((BA25_3.out).below hb)
  have B26_0 := Lib.hid (Kit.kept hb B25_0.out)
  have B26_1 := Lib.hid (Kit.kept hb B25_1.out)
  have B26_2 := Lib.hid (Kit.kept hb B25_2.out)
  have B26_3 := Lib.hid (Kit.kept hb B25_3.out)
  have B26_4 := Lib.hid (Kit.kept hb B25_n.out)
  have Z26 := Lib.hid (Kit.then_ (Z25.out) hb); clear hb
  have l27_0 := Kit.lt B26_0.out
  have l27_1 := Kit.lt B26_1.out
  have l27_2 := Kit.lt B26_2.out
  have l27_3 := Kit.lt B26_3.out
  have l27_4 := Kit.lt B26_4.out
  have z27 := (Z26.out).size
  go_wp2_with fail
  clear l27_0 l27_1 l27_2 l27_3 l27_4 z27
  generalize hW : World.alloc u26 (.cells #[.int .i64 rs.lines, .int .i64 rs.columns, .int .i64 rs.top, .int .i64 rs.rows, .int .i64 rs.left, .int .i64 rs.wide, .int .i64 rs.pulse] 40 (0, 0)) = u28
  have B28_0 : Hid (u28.heap[w.heap.size]? = some (.cells #[.int .i64 s.lines, .int .i64 s.columns, .int .i64 s.top, .int .i64 s.rows, .int .i64 s.left, .int .i64 s.wide, .int .i64 s.pulse] 40 (0, 0))) := by rw [← hW]; exact Kit.blk_old B26_0.out _
  have B28_1 : Hid (u28.heap[(w.heap.size + 1)]? = some (.cells #[.int .i64 p.frame, .int .i64 p.line, .int .i64 p.col] 67 (0, 0))) := by rw [← hW]; exact Kit.blk_old B26_1.out _
  have B28_2 : Hid (u28.heap[X]? = some (.cells #[.int .i64 sp.frame, .int .i64 sp.line, .int .i64 sp.col] 67 (0, 0))) := by rw [← hW]; exact Kit.blk_old B26_2.out _
  have B28_3 : Hid (u28.heap[Y]? = some (.cells #[.int .i64 sp.frame, .int .i64 sp.line, .int .i64 sp.col] 67 (0, 0))) := by rw [← hW]; exact Kit.blk_old B26_3.out _
  have B28_4 : Hid (u28.heap[Q]? = some (.cells #[.int .i64 rs.lines, .int .i64 rs.columns, .int .i64 rs.top, .int .i64 rs.rows, .int .i64 rs.left, .int .i64 rs.wide, .int .i64 rs.pulse] 40 (0, 0))) := by rw [← hW]; exact Kit.blk_old B26_4.out _
  have B28_n : Hid (u28.heap[u26.heap.size]? = some (.cells #[.int .i64 rs.lines, .int .i64 rs.columns, .int .i64 rs.top, .int .i64 rs.rows, .int .i64 rs.left, .int .i64 rs.wide, .int .i64 rs.pulse] 40 (0, 0))) := by rw [← hW]; exact Kit.blk1 _ _
  have Z28 : Hid (Below w.heap.size w u28) := by rw [← hW]; exact (Z26.out).alloc (Z26.out).size _
  have BA28_0 : Hid (BytesAt u28 A n l) := by rw [← hW]; exact (BA26_0.out).below (Kit.below1 _ _)
  have BA28_1 : Hid (BytesAt u28 A1 by_.length by_) := by rw [← hW]; exact (BA26_1.out).below (Kit.below1 _ _)
  have BA28_2 : Hid (BytesAt u28 A2 by_.length by_) := by rw [← hW]; exact (BA26_2.out).below (Kit.below1 _ _)
  have BA28_3 : Hid (BytesAt u28 A3 n l) := by rw [← hW]; exact (BA26_3.out).below (Kit.below1 _ _)
  clear hW
  have yR := (Z26.out).size
  have m28_0 := Kit.lt B26_0.out
  have m28_1 := Kit.lt B26_1.out
  have m28_2 := Kit.lt B26_2.out
  have m28_3 := Kit.lt B26_3.out
  have m28_4 := Kit.lt B26_4.out
  generalize u26.heap.size = R at *
  have ys0 := fun d os => cell_regrown (Kit.cell B28_0.out 0 _ rfl : u28.cell? ⟨w.heap.size, 0, none⟩ = some (.int .i64 s.lines)) d os
  have ys1 := fun d os => cell_regrown (Kit.cell B28_0.out 1 _ rfl : u28.cell? ⟨w.heap.size, 1, none⟩ = some (.int .i64 s.columns)) d os
  have ys2 := fun d os => cell_regrown (Kit.cell B28_0.out 2 _ rfl : u28.cell? ⟨w.heap.size, 2, none⟩ = some (.int .i64 s.top)) d os
  have ys3 := fun d os => cell_regrown (Kit.cell B28_0.out 3 _ rfl : u28.cell? ⟨w.heap.size, 3, none⟩ = some (.int .i64 s.rows)) d os
  have ys4 := fun d os => cell_regrown (Kit.cell B28_0.out 4 _ rfl : u28.cell? ⟨w.heap.size, 4, none⟩ = some (.int .i64 s.left)) d os
  have ys5 := fun d os => cell_regrown (Kit.cell B28_0.out 5 _ rfl : u28.cell? ⟨w.heap.size, 5, none⟩ = some (.int .i64 s.wide)) d os
  have ys6 := fun d os => cell_regrown (Kit.cell B28_0.out 6 _ rfl : u28.cell? ⟨w.heap.size, 6, none⟩ = some (.int .i64 s.pulse)) d os
  have yx0 := fun d os => cell_regrown (Kit.cell B28_2.out 0 _ rfl : u28.cell? ⟨X, 0, none⟩ = some (.int .i64 sp.frame)) d os
  have yx1 := fun d os => cell_regrown (Kit.cell B28_2.out 1 _ rfl : u28.cell? ⟨X, 1, none⟩ = some (.int .i64 sp.line)) d os
  have yx2 := fun d os => cell_regrown (Kit.cell B28_2.out 2 _ rfl : u28.cell? ⟨X, 2, none⟩ = some (.int .i64 sp.col)) d os
  have yy0 := fun d os => cell_regrown (Kit.cell B28_3.out 0 _ rfl : u28.cell? ⟨Y, 0, none⟩ = some (.int .i64 sp.frame)) d os
  have yy1 := fun d os => cell_regrown (Kit.cell B28_3.out 1 _ rfl : u28.cell? ⟨Y, 1, none⟩ = some (.int .i64 sp.line)) d os
  have yy2 := fun d os => cell_regrown (Kit.cell B28_3.out 2 _ rfl : u28.cell? ⟨Y, 2, none⟩ = some (.int .i64 sp.col)) d os
  have yq0 := fun d os => cell_regrown (Kit.cell B28_4.out 0 _ rfl : u28.cell? ⟨Q, 0, none⟩ = some (.int .i64 rs.lines)) d os
  have yq1 := fun d os => cell_regrown (Kit.cell B28_4.out 1 _ rfl : u28.cell? ⟨Q, 1, none⟩ = some (.int .i64 rs.columns)) d os
  have yq2 := fun d os => cell_regrown (Kit.cell B28_4.out 2 _ rfl : u28.cell? ⟨Q, 2, none⟩ = some (.int .i64 rs.top)) d os
  have yq3 := fun d os => cell_regrown (Kit.cell B28_4.out 3 _ rfl : u28.cell? ⟨Q, 3, none⟩ = some (.int .i64 rs.rows)) d os
  have yq4 := fun d os => cell_regrown (Kit.cell B28_4.out 4 _ rfl : u28.cell? ⟨Q, 4, none⟩ = some (.int .i64 rs.left)) d os
  have yq5 := fun d os => cell_regrown (Kit.cell B28_4.out 5 _ rfl : u28.cell? ⟨Q, 5, none⟩ = some (.int .i64 rs.wide)) d os
  have yq6 := fun d os => cell_regrown (Kit.cell B28_4.out 6 _ rfl : u28.cell? ⟨Q, 6, none⟩ = some (.int .i64 rs.pulse)) d os
  have yr0 := fun d os => cell_regrown (Kit.cell B28_n.out 0 _ rfl : u28.cell? ⟨R, 0, none⟩ = some (.int .i64 rs.lines)) d os
  have yr1 := fun d os => cell_regrown (Kit.cell B28_n.out 1 _ rfl : u28.cell? ⟨R, 1, none⟩ = some (.int .i64 rs.columns)) d os
  have yr2 := fun d os => cell_regrown (Kit.cell B28_n.out 2 _ rfl : u28.cell? ⟨R, 2, none⟩ = some (.int .i64 rs.top)) d os
  have yr3 := fun d os => cell_regrown (Kit.cell B28_n.out 3 _ rfl : u28.cell? ⟨R, 3, none⟩ = some (.int .i64 rs.rows)) d os
  have yr4 := fun d os => cell_regrown (Kit.cell B28_n.out 4 _ rfl : u28.cell? ⟨R, 4, none⟩ = some (.int .i64 rs.left)) d os
  have yr5 := fun d os => cell_regrown (Kit.cell B28_n.out 5 _ rfl : u28.cell? ⟨R, 5, none⟩ = some (.int .i64 rs.wide)) d os
  have yr6 := fun d os => cell_regrown (Kit.cell B28_n.out 6 _ rfl : u28.cell? ⟨R, 6, none⟩ = some (.int .i64 rs.pulse)) d os
  have cv1 := fun d os => conv_regrown (c := c1) BA28_1.out d os
  have cv2 := fun d os => conv_regrown (c := c2) BA28_2.out d os
  have e1 := eqSpt_rfl sp.frame sp.line sp.col; have e2 := eqScr_rfl rs.lines rs.columns rs.top rs.rows rs.left rs.wide rs.pulse
  generalize strOfNums by_ = str at *
  refine wp_region_quiet_below (l := _) (by kernel_rfl) (by kernel_rfl) ?_
  simp only [List.append_eq, List.cons_append, List.nil_append]
  repeat (go_big_quiet_step ((first | (go_at_call 37; exact Calls.regrown_of (HCK.out _)) | (go_at_call 24; exact Calls.regrown_of (HRC.out _)) | (go_at_call 51; exact Calls.regrown_of (HLE.out _)) | (go_at_call 27; exact Calls.regrown_of (HRL.out _)) | (go_at_call 52; exact Calls.regrown_of (HPU.out _)) | (go_at_call 53; exact Calls.regrown_of (HRP.out _)) | (go_at_call 54; exact Calls.regrown_of (HPS.out _)) | (go_at_call 55; exact Calls.regrown_of (HRQ.out _)))))
  refine wpQuiet_nil ?_
  intro _ hw'
  obtain ⟨⟨dq, osq⟩, hw''⟩ := hw'
  subst hw''
  have hbb := below_regrown u28 dq osq
  generalize Sort.grow (redrawn u28 dq) osq = w1 at *
  clear ys0 ys1 ys2 ys3 ys4 ys5 ys6 yx0 yx1 yx2 yy0 yy1 yy2 yq0 yq1 yq2 yq3 yq4 yq5 yq6 yr0 yr1 yr2 yr3 yr4 yr5 yr6 cv1 cv2
  have HB1 := Lib.hid (Kit.then_ (Z28.out) hbb); clear hbb
  go_wp2_with fail
  go_ret
  exact ⟨rfl, HB1.out⟩

theorem tcalls_calls (s : Scr) (t u : Int) (p : Spt) (A : Option Addr) (n c : Nat) (l : List Int) (w : World) (hba : BytesAt w A n l) (hcf : NilFit A c) (hl : ∀ b ∈ l, 0 ≤ b ∧ b < 256) :
    Calls Try.prog 8 #[s.val, .int .i64 t, .int .i64 u, p.val, .slice A n c] w fun e w' => e = .returned (.bool true) ∧ Below w.heap.size w w' := by
  rcases Nat.lt_or_ge 300 n with h | h
  · exact tcalls_long s t u p A n c w h
  · exact tcalls_short s t u p A n c l w hba h hcf hl
end Go.Proofs.YthbbbmomlehimaaR.Ts
