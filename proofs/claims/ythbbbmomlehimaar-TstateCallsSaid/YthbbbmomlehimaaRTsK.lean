import Derived.Test.YthbbbmomlehimaaRTsI
import Derived.Test.YthbbbmomlehimaaRTsJ
import Derived.Test.YthbbbmomlehimaaRCoF
set_option linter.unusedVariables false
namespace Go.Proofs.YthbbbmomlehimaaR.Ts
open Go.RowKit Oc

set_option maxRecDepth 100000 in
set_option maxHeartbeats 2000000 in
theorem lives02_calls (w : World) : Calls Try.prog 36 #[] w fun e w' => e = .returned (.bool true) ∧ Below w.heap.size w w' := by
  have hs1 : ∀ w, Calls Try.prog 41 #[classic.val, .int .i64 70908] w fun e w' => e = .returned (.tuple #[.agg #[.int .i64 1, .int .i64 0, .int .i64 0], .int .i64 0]) ∧ Below w.heap.size w w' := fun w => spot_yes classic 70908 classic_ok (by decide) (by decide) w
  have hs2 : ∀ w, Calls Try.prog 41 #[classic.val, .int .i64 14364] w fun e w' => e = .returned (.tuple #[.agg #[.int .i64 0, .int .i64 63, .int .i64 0], .int .i64 0]) ∧ Below w.heap.size w w' := fun w => spot_yes classic 14364 classic_ok (by decide) (by decide) w
  have hlen : ∀ w, Calls Try.prog 51 #[classic.val] w fun e w' => e = .returned (.int .i64 70908) ∧ Below w.heap.size w w' := fun w => length_calls classic w
  have hp1 : ∀ w, Calls Try.prog 52 #[classic.val, .int .i64 35] w fun e w' => e = .returned (.bool true) ∧ Below w.heap.size w w' := fun w => pulse_in classic 35 classic_ok (by decide) (by decide) w
  have hp2 : ∀ w, Calls Try.prog 52 #[classic.val, .int .i64 36] w fun e w' => e = .returned (.bool false) ∧ Below w.heap.size w w' := fun w => pulse_in classic 36 classic_ok (by decide) (by decide) w
  have hpp : ∀ w, Calls Try.prog 54 #[classic.val, .int .i64 30, .int .i64 70910] w fun e w' => e = .returned (.int .i64 8) ∧ Below w.heap.size w w' := fun w => pulses101 classic 30 70910 w classic_ok (by decide) (by decide) (by decide)
  unfold Scr.val Scr.vals classic at *
  have HS1 := Lib.hid hs1; have HS2 := Lib.hid hs2; have HLEN := Lib.hid hlen; have HP1 := Lib.hid hp1; have HP2 := Lib.hid hp2; have HPP := Lib.hid hpp; clear hs1 hs2 hlen hp1 hp2 hpp
  go_enter Try.func36, Try.ntmps36
  go_wp2_with fail
  refine (tstate_classic _).mono ?_; rintro e w0 ⟨rfl, hb⟩
  have HB0 := Lib.hid hb; clear hb
  have hz0 := HB0.out.size
  unfold Scr.val Scr.vals classic
  go_wp2_with fail
  generalize hW : w0.alloc (.cells #[.int .i64 311, .int .i64 228, .int .i64 63, .int .i64 192, .int .i64 14, .int .i64 32, .int .i64 36] 40 (0, 0)) = W1
  have hS : W1.heap[w0.heap.size]? = some (.cells #[.int .i64 311, .int .i64 228, .int .i64 63, .int .i64 192, .int .i64 14, .int .i64 32, .int .i64 36] 40 (0, 0)) := by rw [← hW]; exact Kit.blk1 _ _
  have hB1 : Below w.heap.size w W1 := by rw [← hW]; exact HB0.out.alloc hz0 _
  clear hW
  generalize w0.heap.size = S at *
  refine (HS1.out _).mono ?_; rintro e w1 ⟨rfl, hb⟩
  have hS1 := Kit.kept hb hS
  have HB1 := Lib.hid (hB1.trans (hb.mono hB1.size)); clear hb hS hB1
  have hz1 := HB1.out.size
  have a0 : w1.cell? ⟨S, 0, none⟩ = some (.int .i64 311) := Kit.cell hS1 0 _ rfl
  have a1 : w1.cell? ⟨S, 1, none⟩ = some (.int .i64 228) := Kit.cell hS1 1 _ rfl
  have a2 : w1.cell? ⟨S, 2, none⟩ = some (.int .i64 63) := Kit.cell hS1 2 _ rfl
  have a3 : w1.cell? ⟨S, 3, none⟩ = some (.int .i64 192) := Kit.cell hS1 3 _ rfl
  have a4 : w1.cell? ⟨S, 4, none⟩ = some (.int .i64 14) := Kit.cell hS1 4 _ rfl
  have a5 : w1.cell? ⟨S, 5, none⟩ = some (.int .i64 32) := Kit.cell hS1 5 _ rfl
  have a6 : w1.cell? ⟨S, 6, none⟩ = some (.int .i64 36) := Kit.cell hS1 6 _ rfl
  have hl1 := Kit.lt hS1
  go_wp2_with fail
  generalize hW : w1.alloc (.cells #[.int .i64 1, .int .i64 0, .int .i64 0] 67 (0, 0)) = W2
  have hP : W2.heap[w1.heap.size]? = some (.cells #[.int .i64 1, .int .i64 0, .int .i64 0] 67 (0, 0)) := by rw [← hW]; exact Kit.blk1 _ _
  have hS2 : W2.heap[S]? = some (.cells #[.int .i64 311, .int .i64 228, .int .i64 63, .int .i64 192, .int .i64 14, .int .i64 32, .int .i64 36] 40 (0, 0)) := by rw [← hW]; exact Kit.blk_old hS1 _
  have hbW2 : Below w.heap.size w W2 := by rw [← hW]; exact HB1.out.alloc (by omega) _
  clear hW
  generalize w1.heap.size = P at *
  refine (HS2.out _).mono ?_; rintro e w2 ⟨rfl, hb⟩
  have hS3 := Kit.kept hb hS2
  have hP3 := Kit.kept hb hP
  have HB2 := Lib.hid (Kit.then_ hbW2 hb); clear hb hS1 hS2 hP hbW2 a0 a1 a2 a3 a4 a5 a6
  have hz2 := HB2.out.size
  have b00 : w2.cell? ⟨S, 0, none⟩ = some (.int .i64 311) := Kit.cell hS3 0 _ rfl
  have b01 : w2.cell? ⟨S, 1, none⟩ = some (.int .i64 228) := Kit.cell hS3 1 _ rfl
  have b02 : w2.cell? ⟨S, 2, none⟩ = some (.int .i64 63) := Kit.cell hS3 2 _ rfl
  have b03 : w2.cell? ⟨S, 3, none⟩ = some (.int .i64 192) := Kit.cell hS3 3 _ rfl
  have b04 : w2.cell? ⟨S, 4, none⟩ = some (.int .i64 14) := Kit.cell hS3 4 _ rfl
  have b05 : w2.cell? ⟨S, 5, none⟩ = some (.int .i64 32) := Kit.cell hS3 5 _ rfl
  have b06 : w2.cell? ⟨S, 6, none⟩ = some (.int .i64 36) := Kit.cell hS3 6 _ rfl
  have b0l := Kit.lt hS3
  have b10 : w2.cell? ⟨P, 0, none⟩ = some (.int .i64 1) := Kit.cell hP3 0 _ rfl
  have b11 : w2.cell? ⟨P, 1, none⟩ = some (.int .i64 0) := Kit.cell hP3 1 _ rfl
  have b12 : w2.cell? ⟨P, 2, none⟩ = some (.int .i64 0) := Kit.cell hP3 2 _ rfl
  have b1l := Kit.lt hP3
  go_wp2_with fail
  generalize hW : w2.alloc (.cells #[.int .i64 0, .int .i64 63, .int .i64 0] 67 (0, 0)) = W3
  have hQ : W3.heap[w2.heap.size]? = some (.cells #[.int .i64 0, .int .i64 63, .int .i64 0] 67 (0, 0)) := by rw [← hW]; exact Kit.blk1 _ _
  have hS4 : W3.heap[S]? = some (.cells #[.int .i64 311, .int .i64 228, .int .i64 63, .int .i64 192, .int .i64 14, .int .i64 32, .int .i64 36] 40 (0, 0)) := by rw [← hW]; exact Kit.blk_old hS3 _
  have hP4 : W3.heap[P]? = some (.cells #[.int .i64 1, .int .i64 0, .int .i64 0] 67 (0, 0)) := by rw [← hW]; exact Kit.blk_old hP3 _
  have hbW3 : Below w.heap.size w W3 := by rw [← hW]; exact HB2.out.alloc (by omega) _
  clear hW
  generalize w2.heap.size = Q at *
  clear hS3 hP3 b00 b01 b02 b03 b04 b05 b06 b0l b10 b11 b12 b1l
  refine (HLEN.out _).mono ?_; rintro e v0 ⟨rfl, hb⟩
  have hSv0 := Kit.kept hb hS4
  have hPv0 := Kit.kept hb hP4
  have hQv0 := Kit.kept hb hQ
  have hbv0 := Kit.then_ hbW3 hb
  clear hb hS4 hP4 hQ hbW3
  have hzv0 := hbv0.size
  have Hv0 := Lib.hid hbv0; clear hbv0
  have d000 : v0.cell? ⟨S, 0, none⟩ = some (.int .i64 311) := Kit.cell hSv0 0 _ rfl
  have d001 : v0.cell? ⟨S, 1, none⟩ = some (.int .i64 228) := Kit.cell hSv0 1 _ rfl
  have d002 : v0.cell? ⟨S, 2, none⟩ = some (.int .i64 63) := Kit.cell hSv0 2 _ rfl
  have d003 : v0.cell? ⟨S, 3, none⟩ = some (.int .i64 192) := Kit.cell hSv0 3 _ rfl
  have d004 : v0.cell? ⟨S, 4, none⟩ = some (.int .i64 14) := Kit.cell hSv0 4 _ rfl
  have d005 : v0.cell? ⟨S, 5, none⟩ = some (.int .i64 32) := Kit.cell hSv0 5 _ rfl
  have d006 : v0.cell? ⟨S, 6, none⟩ = some (.int .i64 36) := Kit.cell hSv0 6 _ rfl
  have d00l := Kit.lt hSv0
  have d010 : v0.cell? ⟨P, 0, none⟩ = some (.int .i64 1) := Kit.cell hPv0 0 _ rfl
  have d011 : v0.cell? ⟨P, 1, none⟩ = some (.int .i64 0) := Kit.cell hPv0 1 _ rfl
  have d012 : v0.cell? ⟨P, 2, none⟩ = some (.int .i64 0) := Kit.cell hPv0 2 _ rfl
  have d01l := Kit.lt hPv0
  have d020 : v0.cell? ⟨Q, 0, none⟩ = some (.int .i64 0) := Kit.cell hQv0 0 _ rfl
  have d021 : v0.cell? ⟨Q, 1, none⟩ = some (.int .i64 63) := Kit.cell hQv0 1 _ rfl
  have d022 : v0.cell? ⟨Q, 2, none⟩ = some (.int .i64 0) := Kit.cell hQv0 2 _ rfl
  have d02l := Kit.lt hQv0
  go_wp2_with fail
  refine (HP1.out _).mono ?_; rintro e v1 ⟨rfl, hb⟩
  have hSv1 := Kit.kept hb hSv0
  have hPv1 := Kit.kept hb hPv0
  have hQv1 := Kit.kept hb hQv0
  have hbv1 := Kit.then_ Hv0.out hb
  clear hb hSv0 hPv0 hQv0 Hv0
  clear d000 d001 d002 d003 d004 d005 d006 d00l d010 d011 d012 d01l d020 d021 d022 d02l
  have hzv1 := hbv1.size
  have Hv1 := Lib.hid hbv1; clear hbv1
  have d100 : v1.cell? ⟨S, 0, none⟩ = some (.int .i64 311) := Kit.cell hSv1 0 _ rfl
  have d101 : v1.cell? ⟨S, 1, none⟩ = some (.int .i64 228) := Kit.cell hSv1 1 _ rfl
  have d102 : v1.cell? ⟨S, 2, none⟩ = some (.int .i64 63) := Kit.cell hSv1 2 _ rfl
  have d103 : v1.cell? ⟨S, 3, none⟩ = some (.int .i64 192) := Kit.cell hSv1 3 _ rfl
  have d104 : v1.cell? ⟨S, 4, none⟩ = some (.int .i64 14) := Kit.cell hSv1 4 _ rfl
  have d105 : v1.cell? ⟨S, 5, none⟩ = some (.int .i64 32) := Kit.cell hSv1 5 _ rfl
  have d106 : v1.cell? ⟨S, 6, none⟩ = some (.int .i64 36) := Kit.cell hSv1 6 _ rfl
  have d10l := Kit.lt hSv1
  have d110 : v1.cell? ⟨P, 0, none⟩ = some (.int .i64 1) := Kit.cell hPv1 0 _ rfl
  have d111 : v1.cell? ⟨P, 1, none⟩ = some (.int .i64 0) := Kit.cell hPv1 1 _ rfl
  have d112 : v1.cell? ⟨P, 2, none⟩ = some (.int .i64 0) := Kit.cell hPv1 2 _ rfl
  have d11l := Kit.lt hPv1
  have d120 : v1.cell? ⟨Q, 0, none⟩ = some (.int .i64 0) := Kit.cell hQv1 0 _ rfl
  have d121 : v1.cell? ⟨Q, 1, none⟩ = some (.int .i64 63) := Kit.cell hQv1 1 _ rfl
  have d122 : v1.cell? ⟨Q, 2, none⟩ = some (.int .i64 0) := Kit.cell hQv1 2 _ rfl
  have d12l := Kit.lt hQv1
  go_wp2_with fail
  refine (HP2.out _).mono ?_; rintro e v2 ⟨rfl, hb⟩
  have hSv2 := Kit.kept hb hSv1
  have hPv2 := Kit.kept hb hPv1
  have hQv2 := Kit.kept hb hQv1
  have hbv2 := Kit.then_ Hv1.out hb
  clear hb hSv1 hPv1 hQv1 Hv1
  clear d100 d101 d102 d103 d104 d105 d106 d10l d110 d111 d112 d11l d120 d121 d122 d12l
  have hzv2 := hbv2.size
  have Hv2 := Lib.hid hbv2; clear hbv2
  have d200 : v2.cell? ⟨S, 0, none⟩ = some (.int .i64 311) := Kit.cell hSv2 0 _ rfl
  have d201 : v2.cell? ⟨S, 1, none⟩ = some (.int .i64 228) := Kit.cell hSv2 1 _ rfl
  have d202 : v2.cell? ⟨S, 2, none⟩ = some (.int .i64 63) := Kit.cell hSv2 2 _ rfl
  have d203 : v2.cell? ⟨S, 3, none⟩ = some (.int .i64 192) := Kit.cell hSv2 3 _ rfl
  have d204 : v2.cell? ⟨S, 4, none⟩ = some (.int .i64 14) := Kit.cell hSv2 4 _ rfl
  have d205 : v2.cell? ⟨S, 5, none⟩ = some (.int .i64 32) := Kit.cell hSv2 5 _ rfl
  have d206 : v2.cell? ⟨S, 6, none⟩ = some (.int .i64 36) := Kit.cell hSv2 6 _ rfl
  have d20l := Kit.lt hSv2
  have d210 : v2.cell? ⟨P, 0, none⟩ = some (.int .i64 1) := Kit.cell hPv2 0 _ rfl
  have d211 : v2.cell? ⟨P, 1, none⟩ = some (.int .i64 0) := Kit.cell hPv2 1 _ rfl
  have d212 : v2.cell? ⟨P, 2, none⟩ = some (.int .i64 0) := Kit.cell hPv2 2 _ rfl
  have d21l := Kit.lt hPv2
  have d220 : v2.cell? ⟨Q, 0, none⟩ = some (.int .i64 0) := Kit.cell hQv2 0 _ rfl
  have d221 : v2.cell? ⟨Q, 1, none⟩ = some (.int .i64 63) := Kit.cell hQv2 1 _ rfl
  have d222 : v2.cell? ⟨Q, 2, none⟩ = some (.int .i64 0) := Kit.cell hQv2 2 _ rfl
  have d22l := Kit.lt hQv2
  go_wp2_with fail
  refine (HPP.out _).mono ?_; rintro e v3 ⟨rfl, hb⟩
  have hSv3 := Kit.kept hb hSv2
  have hPv3 := Kit.kept hb hPv2
  have hQv3 := Kit.kept hb hQv2
  have hbv3 := Kit.then_ Hv2.out hb
  clear hb hSv2 hPv2 hQv2 Hv2
  clear d200 d201 d202 d203 d204 d205 d206 d20l d210 d211 d212 d21l d220 d221 d222 d22l
  have hzv3 := hbv3.size
  have Hv3 := Lib.hid hbv3; clear hbv3
  have d300 : v3.cell? ⟨S, 0, none⟩ = some (.int .i64 311) := Kit.cell hSv3 0 _ rfl
  have d301 : v3.cell? ⟨S, 1, none⟩ = some (.int .i64 228) := Kit.cell hSv3 1 _ rfl
  have d302 : v3.cell? ⟨S, 2, none⟩ = some (.int .i64 63) := Kit.cell hSv3 2 _ rfl
  have d303 : v3.cell? ⟨S, 3, none⟩ = some (.int .i64 192) := Kit.cell hSv3 3 _ rfl
  have d304 : v3.cell? ⟨S, 4, none⟩ = some (.int .i64 14) := Kit.cell hSv3 4 _ rfl
  have d305 : v3.cell? ⟨S, 5, none⟩ = some (.int .i64 32) := Kit.cell hSv3 5 _ rfl
  have d306 : v3.cell? ⟨S, 6, none⟩ = some (.int .i64 36) := Kit.cell hSv3 6 _ rfl
  have d30l := Kit.lt hSv3
  have d310 : v3.cell? ⟨P, 0, none⟩ = some (.int .i64 1) := Kit.cell hPv3 0 _ rfl
  have d311 : v3.cell? ⟨P, 1, none⟩ = some (.int .i64 0) := Kit.cell hPv3 1 _ rfl
  have d312 : v3.cell? ⟨P, 2, none⟩ = some (.int .i64 0) := Kit.cell hPv3 2 _ rfl
  have d31l := Kit.lt hPv3
  have d320 : v3.cell? ⟨Q, 0, none⟩ = some (.int .i64 0) := Kit.cell hQv3 0 _ rfl
  have d321 : v3.cell? ⟨Q, 1, none⟩ = some (.int .i64 63) := Kit.cell hQv3 1 _ rfl
  have d322 : v3.cell? ⟨Q, 2, none⟩ = some (.int .i64 0) := Kit.cell hQv3 2 _ rfl
  have d32l := Kit.lt hQv3
  go_wp2_with fail
  go_ret
  exact ⟨rfl, Hv3.out⟩
end Go.Proofs.YthbbbmomlehimaaR.Ts
