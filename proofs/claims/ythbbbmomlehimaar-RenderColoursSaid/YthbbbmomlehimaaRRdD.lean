import Derived.Test.YthbbbmomlehimaaRRdC
set_option linter.unusedVariables false
namespace Go.Proofs.YthbbbmomlehimaaR.Rd
open Go.RowKit Ts Oc

set_option maxRecDepth 100000 in
set_option maxHeartbeats 4000000 in
theorem frame_calls (w : World) : Calls Try.prog 111 #[.agg CLV, .slice none 0 0, .int .i64 0] w fun e w' => ∃ A c Ab cb, e = .returned (.tuple #[.agg #[.int .i64 0, .slice A 49152 c, .slice Ab 0 cb], .int .i64 0]) ∧ BytesAt w' A 49152 (List.replicate 49152 0) ∧ Below w.heap.size w w' := by
  have HRC := Lib.hid rcheck_calls; have HLE := Lib.hid cl_length
  have HGA := Lib.hid gather_calls; have HPI := Lib.hid picture_calls
  unfold CLV at *
  go_enter Try.func111, Try.ntmps111
  go_wp2_with fail
  have B1 := Lib.hid (Kit.blk2a w SV ZV)
  have B2 := Lib.hid (Kit.blk2b w SV ZV)
  have Z1 := Lib.hid (Kit.below2 w SV ZV)
  unfold SV CLV ZV at B1 B2 Z1
  refine (HRC.out _).mono ?_; rintro e w1 ⟨rfl, hb⟩
  have C1 := Lib.hid (Kit.kept hb B1.out); have C2 := Lib.hid (Kit.kept hb B2.out); have Z2 := Lib.hid (Kit.then_ Z1.out hb); clear hb B1 B2 Z1
  have s0 : w1.cell? ⟨w.heap.size, 0, none⟩ = some (.int .i64 311) := Kit.cell C1.out 0 _ rfl
  have s1 : w1.cell? ⟨w.heap.size, 1, none⟩ = some (.int .i64 228) := Kit.cell C1.out 1 _ rfl
  have s2 : w1.cell? ⟨w.heap.size, 2, none⟩ = some (.int .i64 63) := Kit.cell C1.out 2 _ rfl
  have s3 : w1.cell? ⟨w.heap.size, 3, none⟩ = some (.int .i64 192) := Kit.cell C1.out 3 _ rfl
  have s4 : w1.cell? ⟨w.heap.size, 4, none⟩ = some (.int .i64 14) := Kit.cell C1.out 4 _ rfl
  have s5 : w1.cell? ⟨w.heap.size, 5, none⟩ = some (.int .i64 32) := Kit.cell C1.out 5 _ rfl
  have s6 : w1.cell? ⟨w.heap.size, 6, none⟩ = some (.int .i64 36) := Kit.cell C1.out 6 _ rfl
  go_wp2_with fail
  clear s0 s1 s2 s3 s4 s5 s6
  refine (HLE.out _).mono ?_; rintro e w2 ⟨rfl, hb⟩
  have D1 := Lib.hid (Kit.kept hb C1.out); have D2 := Lib.hid (Kit.kept hb C2.out); have Z3 := Lib.hid (Kit.then_ Z2.out hb); clear hb C1 C2 Z2
  have s0 : w2.cell? ⟨w.heap.size, 0, none⟩ = some (.int .i64 311) := Kit.cell D1.out 0 _ rfl
  have s1 : w2.cell? ⟨w.heap.size, 1, none⟩ = some (.int .i64 228) := Kit.cell D1.out 1 _ rfl
  have s2 : w2.cell? ⟨w.heap.size, 2, none⟩ = some (.int .i64 63) := Kit.cell D1.out 2 _ rfl
  have s3 : w2.cell? ⟨w.heap.size, 3, none⟩ = some (.int .i64 192) := Kit.cell D1.out 3 _ rfl
  have s4 : w2.cell? ⟨w.heap.size, 4, none⟩ = some (.int .i64 14) := Kit.cell D1.out 4 _ rfl
  have s5 : w2.cell? ⟨w.heap.size, 5, none⟩ = some (.int .i64 32) := Kit.cell D1.out 5 _ rfl
  have s6 : w2.cell? ⟨w.heap.size, 6, none⟩ = some (.int .i64 36) := Kit.cell D1.out 6 _ rfl
  have lS := Kit.lt D1.out; have lR := Kit.lt D2.out
  go_wp2_with fail
  go_region_held3 (fun w' => w'.cell? ⟨w.heap.size, 0, none⟩ = some (.int .i64 311) ∧ w'.cell? ⟨w.heap.size, 1, none⟩ = some (.int .i64 228) ∧ w'.cell? ⟨w.heap.size, 2, none⟩ = some (.int .i64 63) ∧ w'.cell? ⟨w.heap.size, 3, none⟩ = some (.int .i64 192) ∧ w'.cell? ⟨w.heap.size, 4, none⟩ = some (.int .i64 14) ∧ w'.cell? ⟨w.heap.size, 5, none⟩ = some (.int .i64 32) ∧ w'.cell? ⟨w.heap.size, 6, none⟩ = some (.int .i64 36))
    (first | go_keep | exact ⟨Kit.cell F1.out 0 _ rfl, Kit.cell F1.out 1 _ rfl, Kit.cell F1.out 2 _ rfl, Kit.cell F1.out 3 _ rfl, Kit.cell F1.out 4 _ rfl, Kit.cell F1.out 5 _ rfl, Kit.cell F1.out 6 _ rfl⟩ | exact ⟨Kit.cell E1.out 0 _ rfl, Kit.cell E1.out 1 _ rfl, Kit.cell E1.out 2 _ rfl, Kit.cell E1.out 3 _ rfl, Kit.cell E1.out 4 _ rfl, Kit.cell E1.out 5 _ rfl, Kit.cell E1.out 6 _ rfl⟩)
    (first
      | (go_at_call 146; refine (HGA.out _).mono ?_; rintro e w3 ⟨b, rfl, hmap, _, hb3⟩; have hlk : ∀ k, (Instr.lookup 194 (.map (some b)) (.int .i64 k) false).run Try.prog w3 = .ok (.pointer none) w3 := fun k => look_empty b k w3 hmap; have E1 := Lib.hid (Kit.kept hb3 D1.out); have E2 := Lib.hid (Kit.kept hb3 D2.out))
      | (go_at_call 145; refine (HPI.out _).mono ?_; rintro e w4 ⟨A, c, Ab, cb, rfl, hba, hnw, hb4⟩; have F1 := Lib.hid (Kit.kept hb4 E1.out); have F2 := Lib.hid (Kit.kept hb4 E2.out); have r0 := Kit.cell F2.out 0 _ rfl; have r1 := Kit.cell F2.out 1 _ rfl; have r2 := Kit.cell F2.out 2 _ rfl; have g0 := Kit.frz F2.out 0; have g1 := Kit.frz F2.out 1; have g2 := Kit.frz F2.out 2))
  have hv := Kit.set_ (Kit.set_ (Kit.set_ F2.out 0 (.int .i64 0) rfl) 1 (.slice A 49152 c) rfl) 2 (.slice Ab 0 cb) rfl
  have Z4 : Below w.heap.size w w4 := Kit.then_ (Kit.then_ (below_drew Z3.out) hb3) hb4
  have hz9 : Below w.heap.size w (((w4.setCell ⟨w.heap.size + 1, 0, none⟩ (.int .i64 0)).setCell ⟨w.heap.size + 1, 1, none⟩ (.slice A 49152 c)).setCell ⟨w.heap.size + 1, 2, none⟩ (.slice Ab 0 cb)) := ((Z4.setCell (by simp) _).setCell (by simp) _).setCell (by simp) _
  have hb9 : BytesAt (((w4.setCell ⟨w.heap.size + 1, 0, none⟩ (.int .i64 0)).setCell ⟨w.heap.size + 1, 1, none⟩ (.slice A 49152 c)).setCell ⟨w.heap.size + 1, 2, none⟩ (.slice Ab 0 cb)) A 49152 (List.replicate 49152 0) := by
    have hbt := (((Kit.But.refl (w.heap.size + 1) w4).set_ 0 (.int .i64 0)).set_ 1 (.slice A 49152 c)).set_ 2 (.slice Ab 0 cb)
    refine ⟨hba.1, fun hn => ?_⟩
    obtain ⟨b, off, e, hlt, hcc⟩ := hba.2 hn
    have hbP := hnw b off e
    have hl3 := Kit.lt E2.out
    refine ⟨b, off, e, Nat.lt_of_lt_of_le hlt hbt.size, fun i hi => ?_⟩
    exact (World.cell?_of_block (w := w4) (a := ⟨b, _, none⟩) (hbt.block b hlt (by omega))).trans (hcc i hi)
  generalize hW : World.setCell _ ⟨w.heap.size + 1, 2, none⟩ _ = w9 at *
  have HV9 := Lib.hid hv; have HZ9 := Lib.hid hz9; have HB9 := Lib.hid hb9
  clear hW hv hz9 hb9 r0 r1 r2 g0 g1 g2 Z4 hlk hba hb4 hb3 hmap hnw
  go_wp2_with fail
  exact bodyPost_ret (Kit.res_ct rfl (w.heap.size + 1) rfl HV9.out Try.underlying154 rfl (by kernel_rfl)) rfl ⟨A, c, Ab, cb, rfl, HB9.out, HZ9.out⟩

theorem classic_calls (w : World) : Calls Try.prog 85 #[] w fun e w' => e = .returned (.agg CLV) ∧ Below w.heap.size w w' := by
  unfold CLV
  go_enter Try.func85, Try.ntmps85
  go_wp2_with fail
  exact bodyPost_ret (Kit.res_c rfl w.heap.size rfl (Kit.blk1 _ _) Try.underlying40 rfl (by kernel_rfl)) rfl ⟨rfl, Kit.below1 _ _⟩
set_option maxRecDepth 100000 in
theorem lives_calls (w : World) : Calls Try.prog 42 #[] w fun e w' => e = .returned (.bool true) ∧ Below w.heap.size w w' := by
  have HCL := Lib.hid classic_calls; have HFR := Lib.hid frame_calls
  have h1 : ∀ W : World, Calls Try.prog 43 #[.int .u8 71, .bool true, .int .i64 0] W fun e w' => e = .returned (.int .u8 15) ∧ W = w' := fun W => colour_calls 71 0 true W (by omega) (by omega) (by omega) (by omega)
  have h2 : ∀ W : World, Calls Try.prog 43 #[.int .u8 71, .bool false, .int .i64 0] W fun e w' => e = .returned (.int .u8 8) ∧ W = w' := fun W => colour_calls 71 0 false W (by omega) (by omega) (by omega) (by omega)
  have h3 : ∀ W : World, Calls Try.prog 43 #[.int .u8 199, .bool true, .int .i64 16] W fun e w' => e = .returned (.int .u8 8) ∧ W = w' := fun W => colour_calls 199 16 true W (by omega) (by omega) (by omega) (by omega)
  have H1 := Lib.hid h1; have H2 := Lib.hid h2; have H3 := Lib.hid h3; clear h1 h2 h3
  unfold CLV at *
  go_enter Try.func42, Try.ntmps42
  go_wp2_with fail
  refine (HCL.out _).mono ?_; rintro e w1 ⟨rfl, hb⟩
  have Z1 := Lib.hid hb; clear hb
  go_wp2_with fail
  refine (HFR.out _).mono ?_; rintro e w2 ⟨A, c, Ab, cb, rfl, hba, hb⟩
  have Z2 := Lib.hid (Kit.then_ Z1.out hb); clear hb Z1
  obtain ⟨b, off, rfl, hlt, hcc⟩ := hba.2 (by omega)
  have c7 : w2.cell? ⟨b, off + 7, none⟩ = some (.int .u8 0) := by
    have h := hcc 7 (by omega)
    rwa [List.getD, List.getElem?_replicate, if_pos (by omega)] at h
  clear hba hcc
  go_upto_region 2 with (fail)
  have hb3 := Kit.below1 w2 (.cells #[.int .i64 0, .slice (some ⟨b, off, none⟩) 49152 c, .slice Ab 0 cb] 154 (0, 0))
  have B3 := Kit.blk1 w2 (.cells #[.int .i64 0, .slice (some ⟨b, off, none⟩) 49152 c, .slice Ab 0 cb] 154 (0, 0))
  have hzP := Z2.out.size
  generalize World.alloc w2 _ = w3 at *
  generalize w2.heap.size = P at *
  have p1 : w3.cell? ⟨P, 1, none⟩ = some (.slice (some ⟨b, off, none⟩) 49152 c) := Kit.cell B3 1 _ rfl
  have p2 : w3.cell? ⟨P, 2, none⟩ = some (.slice Ab 0 cb) := Kit.cell B3 2 _ rfl
  have c73 : w3.cell? ⟨b, off + 7, none⟩ = some (.int .u8 0) := (hb3.cell (p := ⟨b, _, none⟩) hlt).trans c7
  have Z3 := Lib.hid (Z2.out.trans (hb3.mono hzP))
  clear c7 B3 hb3
  go_wp2_with fail
  refine (H1.out _).mono ?_; rintro e w4 ⟨rfl, rfl⟩
  go_wp2_with fail
  refine (H2.out _).mono ?_; rintro e w4 ⟨rfl, rfl⟩
  go_wp2_with fail
  refine (H3.out _).mono ?_; rintro e w4 ⟨rfl, rfl⟩
  go_wp2_with fail
  go_ret
  exact ⟨rfl, Z3.out⟩
end Go.Proofs.YthbbbmomlehimaaR.Rd
