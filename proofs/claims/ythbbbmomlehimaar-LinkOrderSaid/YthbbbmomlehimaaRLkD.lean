import Derived.Test.YthbbbmomlehimaaRLkC
set_option linter.unusedVariables false
namespace Go.Proofs.YthbbbmomlehimaaR.Lk
open Go.RowKit

set_option maxRecDepth 100000 in
theorem take_no {w : World} {g r n fr : Nat} {ring : Nat → Mg} {mark : Int} {ended : Bool} (h : LkRaw w g r n fr 0 ring mark ended) :
    Calls Try.prog 19 #[.pointer (some ⟨g, 0, none⟩)] w fun e w' => e = .returned (.tuple #[.agg #[.int .i64 0, .int .i64 0, .int .i64 0, .int .u8 0, .int .i64 0, .int .i64 0, .int .u8 0], .int .i64 6]) ∧ Below w.heap.size w w' := by
  have H := Lib.hid h
  have gl := h.gl; have rl := h.rl; clear h
  go_enter Try.func19, Try.ntmps19
  go_wp2_with fail
  have Z0 := Lib.hid (Kit.below1 w (.cells #[.int .i64 0, .int .i64 0, .int .i64 0, .int .u8 0, .int .i64 0, .int .i64 0, .int .u8 0] 33 (0, 0)))
  have H1 := Lib.hid (H.out.kept Z0.out)
  have B0 := Lib.hid (Kit.blk1 w (.cells #[.int .i64 0, .int .i64 0, .int .i64 0, .int .u8 0, .int .i64 0, .int .i64 0, .int .u8 0] 33 (0, 0)))
  have hz : (w.alloc (.cells #[.int .i64 0, .int .i64 0, .int .i64 0, .int .u8 0, .int .i64 0, .int .i64 0, .int .u8 0] 33 (0, 0))).heap.size = w.heap.size + 1 := by simp
  generalize w.alloc (.cells #[.int .i64 0, .int .i64 0, .int .i64 0, .int .u8 0, .int .i64 0, .int .i64 0, .int .u8 0] 33 (0, 0)) = W at *
  refine (made_calls H1.out).mono ?_; rintro e w' ⟨rfl, rfl⟩
  go_wp2_with fail
  have hfi := first_no H1.out
  have HFI := Lib.hid hfi; clear hfi
  refine HFI.out.mono ?_; rintro e W1 ⟨rfl, hb⟩
  clear HFI
  have H2 := Lib.hid (H1.out.kept hb)
  have B2 := Lib.hid (Kit.kept hb B0.out)
  have Z2 := Lib.hid (Kit.then_ Z0.out hb)
  have hz2 := hb.size
  clear hb
  go_upto_region 4 with (fail)
  have B3 := Lib.hid (Kit.blk_old B2.out (.cells #[.int .i64 0, .int .i64 0, .int .i64 0, .int .u8 0, .int .i64 0, .int .i64 0, .int .u8 0] 33 (0, 0)))
  have C3 := Lib.hid (Kit.blk1 W1 (.cells #[.int .i64 0, .int .i64 0, .int .i64 0, .int .u8 0, .int .i64 0, .int .i64 0, .int .u8 0] 33 (0, 0)))
  have Z3 := Lib.hid (Z2.out.alloc Z2.out.size (.cells #[.int .i64 0, .int .i64 0, .int .i64 0, .int .u8 0, .int .i64 0, .int .i64 0, .int .u8 0] 33 (0, 0)))
  generalize W1.alloc (.cells #[.int .i64 0, .int .i64 0, .int .i64 0, .int .u8 0, .int .i64 0, .int .i64 0, .int .u8 0] 33 (0, 0)) = W2 at *
  have hzz : w.heap.size < W1.heap.size := by omega
  generalize W1.heap.size = S2 at *
  have c0 : W2.cell? ⟨S2, 0, none⟩ = some (.int .i64 0) := Kit.cell C3.out 0 _ rfl
  have c1 : W2.cell? ⟨S2, 1, none⟩ = some (.int .i64 0) := Kit.cell C3.out 1 _ rfl
  have c2 : W2.cell? ⟨S2, 2, none⟩ = some (.int .i64 0) := Kit.cell C3.out 2 _ rfl
  have c3 : W2.cell? ⟨S2, 3, none⟩ = some (.int .u8 0) := Kit.cell C3.out 3 _ rfl
  have c4 : W2.cell? ⟨S2, 4, none⟩ = some (.int .i64 0) := Kit.cell C3.out 4 _ rfl
  have c5 : W2.cell? ⟨S2, 5, none⟩ = some (.int .i64 0) := Kit.cell C3.out 5 _ rfl
  have c6 : W2.cell? ⟨S2, 6, none⟩ = some (.int .u8 0) := Kit.cell C3.out 6 _ rfl
  have v0 : W2.cell? ⟨w.heap.size, 0, none⟩ = some (.int .i64 0) := Kit.cell B3.out 0 _ rfl
  have vf0 := Kit.frz B3.out 0
  have v1 : W2.cell? ⟨w.heap.size, 1, none⟩ = some (.int .i64 0) := Kit.cell B3.out 1 _ rfl
  have vf1 := Kit.frz B3.out 1
  have v2 : W2.cell? ⟨w.heap.size, 2, none⟩ = some (.int .i64 0) := Kit.cell B3.out 2 _ rfl
  have vf2 := Kit.frz B3.out 2
  have v3 : W2.cell? ⟨w.heap.size, 3, none⟩ = some (.int .u8 0) := Kit.cell B3.out 3 _ rfl
  have vf3 := Kit.frz B3.out 3
  have v4 : W2.cell? ⟨w.heap.size, 4, none⟩ = some (.int .i64 0) := Kit.cell B3.out 4 _ rfl
  have vf4 := Kit.frz B3.out 4
  have v5 : W2.cell? ⟨w.heap.size, 5, none⟩ = some (.int .i64 0) := Kit.cell B3.out 5 _ rfl
  have vf5 := Kit.frz B3.out 5
  have v6 : W2.cell? ⟨w.heap.size, 6, none⟩ = some (.int .u8 0) := Kit.cell B3.out 6 _ rfl
  have vf6 := Kit.frz B3.out 6
  clear hz hz2
  go_wp2_with fail
  have hv : (((((((W2.setCell ⟨w.heap.size, 0, none⟩ (.int .i64 0)).setCell ⟨w.heap.size, 1, none⟩ (.int .i64 0)).setCell ⟨w.heap.size, 2, none⟩ (.int .i64 0)).setCell ⟨w.heap.size, 3, none⟩ (.int .u8 0)).setCell ⟨w.heap.size, 4, none⟩ (.int .i64 0)).setCell ⟨w.heap.size, 5, none⟩ (.int .i64 0)).setCell ⟨w.heap.size, 6, none⟩ (.int .u8 0)).heap[w.heap.size]? = some (.cells #[.int .i64 0, .int .i64 0, .int .i64 0, .int .u8 0, .int .i64 0, .int .i64 0, .int .u8 0] 33 (0, 0)) := (Kit.set_ (Kit.set_ (Kit.set_ (Kit.set_ (Kit.set_ (Kit.set_ (Kit.set_ B3.out 0 (.int .i64 0) rfl) 1 (.int .i64 0) rfl) 2 (.int .i64 0) rfl) 3 (.int .u8 0) rfl) 4 (.int .i64 0) rfl) 5 (.int .i64 0) rfl) 6 (.int .u8 0) rfl)
  have hz9 : Below w.heap.size w (((((((W2.setCell ⟨w.heap.size, 0, none⟩ (.int .i64 0)).setCell ⟨w.heap.size, 1, none⟩ (.int .i64 0)).setCell ⟨w.heap.size, 2, none⟩ (.int .i64 0)).setCell ⟨w.heap.size, 3, none⟩ (.int .u8 0)).setCell ⟨w.heap.size, 4, none⟩ (.int .i64 0)).setCell ⟨w.heap.size, 5, none⟩ (.int .i64 0)).setCell ⟨w.heap.size, 6, none⟩ (.int .u8 0)) := (((((((Z3.out.setCell (Nat.le_refl _) _).setCell (Nat.le_refl _) _).setCell (Nat.le_refl _) _).setCell (Nat.le_refl _) _).setCell (Nat.le_refl _) _).setCell (Nat.le_refl _) _).setCell (Nat.le_refl _) _)
  generalize hW : World.setCell _ ⟨w.heap.size, 6, none⟩ _ = w9 at *
  have hv9 := Lib.hid hv; have Z9 := Lib.hid hz9
  clear hW hv hz9
  exact bodyPost_ret (Kit.res_ct rfl w.heap.size rfl hv9.out Try.underlying33 rfl (by kernel_rfl)) rfl ⟨rfl, Z9.out⟩

set_option maxRecDepth 100000 in
set_option maxHeartbeats 1000000 in
theorem take_yes {w : World} {g r n fr c : Nat} {ring : Nat → Mg} {mark : Int} {ended : Bool} (h : LkRaw w g r n fr c ring mark ended) (hc : 0 < c) :
    Calls Try.prog 19 #[.pointer (some ⟨g, 0, none⟩)] w fun e w' => e = .returned (.tuple #[(ring fr).val, .int .i64 0]) ∧ LkRaw w' g r n ((fr + 1) % n) (c - 1) ring mark ended ∧ Kit.But g w w' := by
  have H := Lib.hid h
  have n1 := h.n1; have n2 := h.n2; have f1 := h.f1; have c1 := h.c1; have gl := h.gl; have rl := h.rl; have gr := h.ne; clear h
  have hj : ((fr : Int) + 1) % n = ((fr + 1) % n : Nat) := by simp
  have hjn : (fr + 1) % n < n := Nat.mod_lt _ (by omega)
  generalize hjj : (fr + 1) % n = j at *
  clear hjj
  have HJ := Lib.hid hj; clear hj
  have dn : ((n : Int) == 0) = false := beq_eq_false_iff_ne.2 (by omega)
  unfold Mg.val Mg.vals
  go_enter Try.func19, Try.ntmps19
  go_wp2_with fail
  have Z0 := Lib.hid (Kit.below1 w (.cells #[.int .i64 0, .int .i64 0, .int .i64 0, .int .u8 0, .int .i64 0, .int .i64 0, .int .u8 0] 33 (0, 0)))
  have H1 := Lib.hid (H.out.kept Z0.out)
  have B0 := Lib.hid (Kit.blk1 w (.cells #[.int .i64 0, .int .i64 0, .int .i64 0, .int .u8 0, .int .i64 0, .int .i64 0, .int .u8 0] 33 (0, 0)))
  have hz : (w.alloc (.cells #[.int .i64 0, .int .i64 0, .int .i64 0, .int .u8 0, .int .i64 0, .int .i64 0, .int .u8 0] 33 (0, 0))).heap.size = w.heap.size + 1 := by simp
  generalize w.alloc (.cells #[.int .i64 0, .int .i64 0, .int .i64 0, .int .u8 0, .int .i64 0, .int .i64 0, .int .u8 0] 33 (0, 0)) = W at *
  refine (made_calls H1.out).mono ?_; rintro e w' ⟨rfl, rfl⟩
  go_wp2_with fail
  have hfi := first_yes H1.out hc
  unfold Mg.val Mg.vals at hfi; have HFI := Lib.hid hfi; clear hfi
  refine HFI.out.mono ?_; rintro e W1 ⟨rfl, hb⟩
  clear HFI
  have H2 := Lib.hid (H1.out.kept hb)
  have B2 := Lib.hid (Kit.kept hb B0.out)
  have Z2 := Lib.hid (Kit.then_ Z0.out hb)
  have hz2 := hb.size
  clear hb
  generalize hM : ring fr = M at *
  have HM := Lib.hid hM; clear hM
  go_upto_region 4 with (fail)
  have B3 := Lib.hid (Kit.blk_old B2.out (MV M))
  have C3 := Lib.hid (Kit.blk1 W1 (MV M))
  have H3 := Lib.hid (H2.out.kept (Kit.below1 W1 (MV M)))
  have Z3 := Lib.hid (Z2.out.alloc Z2.out.size (MV M))
  unfold MV at B3 C3 H3 Z3
  generalize W1.alloc (.cells #[.int .i64 M.kind, .int .i64 M.time, .int .i64 M.cls, .int .u8 M.high, .int .i64 M.bank, .int .i64 M.place, .int .u8 M.value] 33 (0, 0)) = W2 at *
  have hzz : w.heap.size < W1.heap.size := by omega
  generalize W1.heap.size = S2 at *
  have a0 : W2.cell? ⟨g, 0, none⟩ = some (.slice (some ⟨r, 0, none⟩) n n) := Kit.cell H3.out.blk 0 _ rfl
  have a1 : W2.cell? ⟨g, 1, none⟩ = some (.int .i64 fr) := Kit.cell H3.out.blk 1 _ rfl
  have gf := fun o => Kit.frz H3.out.blk o
  clear hz hz2
  have hj := HJ.out
  go_upto_region 6 with (fail)
  go_region
  go_upto_region 7 with (fail)
  have hv := blk_drew (Kit.set_ H3.out.blk 1 (.int .i64 j) rfl)
  have R3 : Kit.But g W2 (W2.setCell ⟨g, 1, none⟩ (.int .i64 j)).drew := ((Kit.But.refl g W2).set_ 1 _).drew
  generalize hW : World.drew _ = W3 at *
  have H4 := Lib.hid (H3.out.turn R3 hv hjn c1)
  have B4 := Lib.hid (R3.blk B3.out (by omega))
  have C4 := Lib.hid (R3.blk C3.out (by omega))
  have R3 := Lib.hid R3
  clear hW hv a0 a1 gf hj
  have a2 : W3.cell? ⟨g, 2, none⟩ = some (.int .i64 c) := Kit.cell H4.out.blk 2 _ rfl
  have gf := fun o => Kit.frz H4.out.blk o
  go_upto_region 8 with (fail)
  rw [show ((c : Int) - 1) = ((c - 1 : Nat) : Int) by omega]
  have hv := Kit.set_ H4.out.blk 2 (.int .i64 (c - 1 : Nat)) rfl
  have R4 : Kit.But g W3 (W3.setCell ⟨g, 2, none⟩ (.int .i64 (c - 1 : Nat))) := (Kit.But.refl g W3).set_ 2 _
  generalize hW : World.setCell W3 _ _ = W4 at *
  have H5 := Lib.hid (H4.out.turn R4 hv hjn (by omega))
  have B5 := Lib.hid (R4.blk B4.out (by omega))
  have C5 := Lib.hid (R4.blk C4.out (by omega))
  have R4 := Lib.hid R4
  clear hW hv a2 gf
  have c0 : W4.cell? ⟨S2, 0, none⟩ = some (.int .i64 M.kind) := Kit.cell C5.out 0 _ rfl
  have c1 : W4.cell? ⟨S2, 1, none⟩ = some (.int .i64 M.time) := Kit.cell C5.out 1 _ rfl
  have c2 : W4.cell? ⟨S2, 2, none⟩ = some (.int .i64 M.cls) := Kit.cell C5.out 2 _ rfl
  have c3 : W4.cell? ⟨S2, 3, none⟩ = some (.int .u8 M.high) := Kit.cell C5.out 3 _ rfl
  have c4 : W4.cell? ⟨S2, 4, none⟩ = some (.int .i64 M.bank) := Kit.cell C5.out 4 _ rfl
  have c5 : W4.cell? ⟨S2, 5, none⟩ = some (.int .i64 M.place) := Kit.cell C5.out 5 _ rfl
  have c6 : W4.cell? ⟨S2, 6, none⟩ = some (.int .u8 M.value) := Kit.cell C5.out 6 _ rfl
  have v0 : W4.cell? ⟨w.heap.size, 0, none⟩ = some (.int .i64 0) := Kit.cell B5.out 0 _ rfl
  have vf0 := Kit.frz B5.out 0
  have v1 : W4.cell? ⟨w.heap.size, 1, none⟩ = some (.int .i64 0) := Kit.cell B5.out 1 _ rfl
  have vf1 := Kit.frz B5.out 1
  have v2 : W4.cell? ⟨w.heap.size, 2, none⟩ = some (.int .i64 0) := Kit.cell B5.out 2 _ rfl
  have vf2 := Kit.frz B5.out 2
  have v3 : W4.cell? ⟨w.heap.size, 3, none⟩ = some (.int .u8 0) := Kit.cell B5.out 3 _ rfl
  have vf3 := Kit.frz B5.out 3
  have v4 : W4.cell? ⟨w.heap.size, 4, none⟩ = some (.int .i64 0) := Kit.cell B5.out 4 _ rfl
  have vf4 := Kit.frz B5.out 4
  have v5 : W4.cell? ⟨w.heap.size, 5, none⟩ = some (.int .i64 0) := Kit.cell B5.out 5 _ rfl
  have vf5 := Kit.frz B5.out 5
  have v6 : W4.cell? ⟨w.heap.size, 6, none⟩ = some (.int .u8 0) := Kit.cell B5.out 6 _ rfl
  have vf6 := Kit.frz B5.out 6
  go_wp2_with fail
  have hv : (((((((W4.setCell ⟨w.heap.size, 0, none⟩ (.int .i64 M.kind)).setCell ⟨w.heap.size, 1, none⟩ (.int .i64 M.time)).setCell ⟨w.heap.size, 2, none⟩ (.int .i64 M.cls)).setCell ⟨w.heap.size, 3, none⟩ (.int .u8 M.high)).setCell ⟨w.heap.size, 4, none⟩ (.int .i64 M.bank)).setCell ⟨w.heap.size, 5, none⟩ (.int .i64 M.place)).setCell ⟨w.heap.size, 6, none⟩ (.int .u8 M.value)).heap[w.heap.size]? = some (.cells #[.int .i64 M.kind, .int .i64 M.time, .int .i64 M.cls, .int .u8 M.high, .int .i64 M.bank, .int .i64 M.place, .int .u8 M.value] 33 (0, 0)) := (Kit.set_ (Kit.set_ (Kit.set_ (Kit.set_ (Kit.set_ (Kit.set_ (Kit.set_ B5.out 0 (.int .i64 M.kind) rfl) 1 (.int .i64 M.time) rfl) 2 (.int .i64 M.cls) rfl) 3 (.int .u8 M.high) rfl) 4 (.int .i64 M.bank) rfl) 5 (.int .i64 M.place) rfl) 6 (.int .u8 M.value) rfl)
  have hz9 : Kit.But w.heap.size W4 (((((((W4.setCell ⟨w.heap.size, 0, none⟩ (.int .i64 M.kind)).setCell ⟨w.heap.size, 1, none⟩ (.int .i64 M.time)).setCell ⟨w.heap.size, 2, none⟩ (.int .i64 M.cls)).setCell ⟨w.heap.size, 3, none⟩ (.int .u8 M.high)).setCell ⟨w.heap.size, 4, none⟩ (.int .i64 M.bank)).setCell ⟨w.heap.size, 5, none⟩ (.int .i64 M.place)).setCell ⟨w.heap.size, 6, none⟩ (.int .u8 M.value)) := ((((((((Kit.But.refl w.heap.size W4).set_ 0 _).set_ 1 _).set_ 2 _).set_ 3 _).set_ 4 _).set_ 5 _).set_ 6 _)
  generalize hW : World.setCell _ ⟨w.heap.size, 6, none⟩ _ = w9 at *
  have hv9 := Lib.hid hv; have R5 := Lib.hid hz9
  clear hW hv hz9
  have H6 : LkRaw w9 g r n j (c - 1) ring mark ended :=
    ⟨R5.out.blk H5.out.blk (by omega), H5.out.ne, Nat.lt_of_lt_of_le H5.out.rl R5.out.size, fun i k hi hk => (World.cell?_of_block (w := W4) (a := ⟨r, _, none⟩) (R5.out.block r H5.out.rl (by omega))).trans (H5.out.cell i k hi hk),
      fun o => (World.frozen?_of_block (w := W4) (a := ⟨r, o, none⟩) (R5.out.block r H5.out.rl (by omega))).trans (H5.out.frz o), n1, n2, hjn, by omega⟩
  have R6 : Kit.But g w w9 :=
    have h1 : Kit.But g w W4 := ((Kit.But.of_below Z3.out).trans R3.out).trans R4.out
    ⟨R5.out.os.trans h1.os, R5.out.tape.trans h1.tape, R5.out.output.trans h1.output, Nat.le_trans h1.size R5.out.size, fun k hk hp => (R5.out.block k (Nat.lt_of_lt_of_le hk h1.size) (by omega)).trans (h1.block k hk hp)⟩
  have HH := Lib.hid H6; have RR := Lib.hid R6; clear H6 R6
  exact bodyPost_ret (Kit.res_ct rfl w.heap.size rfl hv9.out Try.underlying33 rfl (by kernel_rfl)) rfl ⟨by rw [HM.out]; rfl, HH.out, RR.out⟩
end Go.Proofs.YthbbbmomlehimaaR.Lk
