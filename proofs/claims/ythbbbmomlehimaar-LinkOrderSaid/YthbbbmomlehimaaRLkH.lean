import Derived.Test.YthbbbmomlehimaaRLkG
import Derived.Deep.Cut
set_option linter.unusedVariables false
namespace Go.Proofs.YthbbbmomlehimaaR.Lk
open Go.RowKit

theorem LkRaw.aside {w w' : World} {g r n fr c p : Nat} {ring : Nat → Mg} {mark : Int} {ended : Bool} (h : LkRaw w g r n fr c ring mark ended) (hb : Kit.But p w w') (hg : g ≠ p) (hr : r ≠ p) : LkRaw w' g r n fr c ring mark ended :=
  ⟨hb.blk h.blk hg, h.ne, Nat.lt_of_lt_of_le h.rl hb.size, fun i k hi hk => (World.cell?_of_block (w := w) (a := ⟨r, _, none⟩) (hb.block r h.rl hr)).trans (h.cell i k hi hk),
    fun o => (World.frozen?_of_block (w := w) (a := ⟨r, o, none⟩) (hb.block r h.rl hr)).trans (h.frz o), h.n1, h.n2, h.f1, h.c1⟩
def pmg (t : Int) : Mg := ⟨4, t, 0, 0, 0, 0, 0⟩
def emg (t : Int) : Mg := ⟨5, t, 0, 0, 0, 0, 0⟩
theorem LkRaw.to {w : World} {g r n fr c fr' c' : Nat} {ring ring' : Nat → Mg} {mark mark' : Int} {ended ended' : Bool} (h : LkRaw w g r n fr c ring mark ended) (hr : ∀ i, i < n → ring i = ring' i) (h1 : fr = fr') (h2 : c = c') (h3 : mark = mark') (h4 : ended = ended') : LkRaw w g r n fr' c' ring' mark' ended' := by
  subst h1 h2 h3 h4
  exact ⟨h.blk, h.ne, h.rl, fun i k hi hk => by rw [← hr i hi]; exact h.cell i k hi hk, h.frz, h.n1, h.n2, h.f1, h.c1⟩
theorem send_ok1 {w : World} {g r : Nat} {ring : Nat → Mg} {mark : Int} (m : Mg) (h : LkRaw w g r 1 0 0 ring mark false) (hk : chk m = true) (hm : mark ≤ m.time) :
    Calls Try.prog 17 #[.pointer (some ⟨g, 0, none⟩), m.val] w fun e w' => e = .returned (.int .i64 0) ∧ LkRaw w' g r 1 0 1 (fun _ => m) m.time (m.kind == 5) ∧ But2 g r w w' :=
  (send_ok m h hk hm (by omega)).mono fun e w' ⟨h1, h2, h3⟩ => ⟨h1, h2.to (fun i hi => by rw [if_pos (by omega)]) rfl rfl rfl rfl, h3⟩
theorem take_yes1 {w : World} {g r : Nat} {m : Mg} {mark : Int} {ended : Bool} (h : LkRaw w g r 1 0 1 (fun _ => m) mark ended) :
    Calls Try.prog 19 #[.pointer (some ⟨g, 0, none⟩)] w fun e w' => e = .returned (.tuple #[m.val, .int .i64 0]) ∧ LkRaw w' g r 1 0 0 (fun _ => m) mark ended ∧ Kit.But g w w' :=
  (take_yes h (by omega)).mono fun e w' ⟨h1, h2, h3⟩ => ⟨h1, h2.to (fun _ _ => rfl) (by omega) (by omega) rfl rfl, h3⟩
set_option maxRecDepth 100000 in
set_option maxHeartbeats 2000000 in
theorem lives_calls (w : World) : Calls Try.prog 13 #[] w fun e w' => e = .returned (.bool true) ∧ Below w.heap.size w w' := by
  go_enter Try.func13, Try.ntmps13
  go_wp2_with fail
  refine (new_calls 1 _ (by omega) (by omega)).mono ?_; rintro e w1 ⟨g, r, rfl, hl, hg, hr, hb⟩
  have L1 := Lib.hid hl; have Z1 := Lib.hid hb
  clear hl hb
  go_wp2_with fail
  refine (promise_calls 5 _).mono ?_; rintro e w2 ⟨rfl, hb⟩
  have L2 := Lib.hid (L1.out.kept hb); have Z2 := Lib.hid (Kit.then_ Z1.out hb)
  clear hb
  go_wp2_with fail
  have hs := send_ok1 (pmg 5) L2.out (by decide) (by decide)
  unfold Mg.val Mg.vals pmg at hs
  have HS := Lib.hid hs; clear hs
  refine HS.out.mono ?_; rintro e w3 ⟨rfl, hl, hb⟩
  have L3 := Lib.hid hl; have Z3 := Lib.hid (But2.below Z2.out hb hg hr Z2.out.size)
  clear hl hb HS
  have L3 : Hid (LkRaw w3 g r 1 0 1 (fun _ => ⟨4, 5, 0, 0, 0, 0, 0⟩) 5 false) := L3
  go_wp2_with fail
  refine (promise_calls 6 _).mono ?_; rintro e w4 ⟨rfl, hb⟩
  have L4 := Lib.hid (L3.out.kept hb); have Z4 := Lib.hid (Kit.then_ Z3.out hb)
  clear hb
  go_wp2_with fail
  have hs := send_full (pmg 6) L4.out (by decide) (by decide) rfl
  unfold Mg.val Mg.vals pmg at hs
  have HS := Lib.hid hs; clear hs
  refine HS.out.mono ?_; rintro e w5 ⟨rfl, hb⟩
  clear HS
  have L5 := Lib.hid (L4.out.kept hb); have Z5 := Lib.hid (Kit.then_ Z4.out hb)
  clear hb
  go_wp2_with fail
  have hs := take_yes1 L5.out
  unfold Mg.val Mg.vals at hs
  have HS := Lib.hid hs; clear hs
  refine HS.out.mono ?_; rintro e w6 ⟨rfl, hl, hb⟩
  have L6 := Lib.hid hl; have Z6 := Lib.hid (But2.below Z5.out (But2.of_left hb : But2 g r _ _) hg hr Z5.out.size)
  clear hl hb HS
  go_upto_region 5 with (fail)
  have L7 := Lib.hid (L6.out.kept (Kit.below1 _ (.cells #[.int .i64 4, .int .i64 5, .int .i64 0, .int .u8 0, .int .i64 0, .int .i64 0, .int .u8 0] 33 (0, 0))))
  have Z7 := Lib.hid (Z6.out.alloc Z6.out.size (.cells #[.int .i64 4, .int .i64 5, .int .i64 0, .int .u8 0, .int .i64 0, .int .i64 0, .int .u8 0] 33 (0, 0)))
  have M7 := Lib.hid (Kit.blk1 w6 (.cells #[.int .i64 4, .int .i64 5, .int .i64 0, .int .u8 0, .int .i64 0, .int .i64 0, .int .u8 0] 33 (0, 0)))
  generalize w6.alloc (.cells #[.int .i64 4, .int .i64 5, .int .i64 0, .int .u8 0, .int .i64 0, .int .i64 0, .int .u8 0] 33 (0, 0)) = w7 at *
  have lgM := L6.out.gl; have lrM := L6.out.rl; have lzM := Z6.out.size
  clear L6 Z6
  generalize w6.heap.size = bM at *
  have y0 := fun d os => cell_regrown (w := w7) (a := ⟨bM, 0, none⟩) (v := .int .i64 4) (Kit.cell M7.out 0 _ rfl) d os
  have y1 := fun d os => cell_regrown (w := w7) (a := ⟨bM, 1, none⟩) (v := .int .i64 5) (Kit.cell M7.out 1 _ rfl) d os
  have y2 := fun d os => cell_regrown (w := w7) (a := ⟨bM, 2, none⟩) (v := .int .i64 0) (Kit.cell M7.out 2 _ rfl) d os
  have y3 := fun d os => cell_regrown (w := w7) (a := ⟨bM, 3, none⟩) (v := .int .u8 0) (Kit.cell M7.out 3 _ rfl) d os
  have y4 := fun d os => cell_regrown (w := w7) (a := ⟨bM, 4, none⟩) (v := .int .i64 0) (Kit.cell M7.out 4 _ rfl) d os
  have y5 := fun d os => cell_regrown (w := w7) (a := ⟨bM, 5, none⟩) (v := .int .i64 0) (Kit.cell M7.out 5 _ rfl) d os
  have y6 := fun d os => cell_regrown (w := w7) (a := ⟨bM, 6, none⟩) (v := .int .u8 0) (Kit.cell M7.out 6 _ rfl) d os
  have hs : ∀ d os, Calls Try.prog 17 #[.pointer (some ⟨g, 0, none⟩), (pmg 4).val] (Sort.grow (redrawn w7 d) os) fun e w' => e = .returned (.int .i64 8) ∧ Below (Sort.grow (redrawn w7 d) os).heap.size (Sort.grow (redrawn w7 d) os) w' := fun d os => send_late (pmg 4) (L7.out.kept (below_regrown w7 d os)) (by decide) (by decide)
  unfold Mg.val Mg.vals pmg at hs
  have HS := Lib.hid hs; clear hs
  have e1 := eqMg_rfl 4 5 0 0 0 0 0
  refine wp_region_quiet_below (by kernel_rfl) (by kernel_rfl) ?_
  repeat (go_big_quiet_step ((first | (go_at_call 79; exact Calls.regrown_of (promise_calls _ _)) | (go_at_call 17; exact Calls.regrown_of (HS.out _ _)))))
  refine wpQuiet_nil ?_
  intro _ hw'
  obtain ⟨⟨dq, osq⟩, hw''⟩ := hw'
  subst hw''
  have hb := below_regrown w7 dq osq
  generalize Sort.grow (redrawn w7 dq) osq = w8 at *
  clear y0 y1 y2 y3 y4 y5 y6 HS e1
  have L8 := Lib.hid (L7.out.kept hb); have Z8 := Lib.hid (Kit.then_ Z7.out hb)
  have M8 := Lib.hid (Kit.kept hb M7.out)
  clear hb
  go_upto_region 8 with (fail)
  have L9 := Lib.hid (L8.out.kept (Kit.below1 _ (.cells #[.int .i64 5, .int .i64 9, .int .i64 0, .int .u8 0, .int .i64 0, .int .i64 0, .int .u8 0] 33 (0, 0))))
  have Z9 := Lib.hid (Z8.out.alloc Z8.out.size (.cells #[.int .i64 5, .int .i64 9, .int .i64 0, .int .u8 0, .int .i64 0, .int .i64 0, .int .u8 0] 33 (0, 0)))
  have K9 := Lib.hid (Kit.blk1 w8 (.cells #[.int .i64 5, .int .i64 9, .int .i64 0, .int .u8 0, .int .i64 0, .int .i64 0, .int .u8 0] 33 (0, 0)))
  have M9 := Lib.hid (Kit.blk_old M8.out (.cells #[.int .i64 5, .int .i64 9, .int .i64 0, .int .u8 0, .int .i64 0, .int .i64 0, .int .u8 0] 33 (0, 0)))
  generalize w8.alloc (.cells #[.int .i64 5, .int .i64 9, .int .i64 0, .int .u8 0, .int .i64 0, .int .i64 0, .int .u8 0] 33 (0, 0)) = w9 at *
  have lgK := L8.out.gl; have lrK := L8.out.rl; have lzK := Z8.out.size
  have lxKM := Kit.lt M8.out
  clear L8 Z8 M8
  generalize w8.heap.size = bK at *
  have cK0 : w9.cell? ⟨bK, 0, none⟩ = some (.int .i64 5) := Kit.cell K9.out 0 _ rfl
  have cK1 : w9.cell? ⟨bK, 1, none⟩ = some (.int .i64 9) := Kit.cell K9.out 1 _ rfl
  have cK2 : w9.cell? ⟨bK, 2, none⟩ = some (.int .i64 0) := Kit.cell K9.out 2 _ rfl
  have cK3 : w9.cell? ⟨bK, 3, none⟩ = some (.int .u8 0) := Kit.cell K9.out 3 _ rfl
  have cK4 : w9.cell? ⟨bK, 4, none⟩ = some (.int .i64 0) := Kit.cell K9.out 4 _ rfl
  have cK5 : w9.cell? ⟨bK, 5, none⟩ = some (.int .i64 0) := Kit.cell K9.out 5 _ rfl
  have cK6 : w9.cell? ⟨bK, 6, none⟩ = some (.int .u8 0) := Kit.cell K9.out 6 _ rfl
  go_wp2_with fail
  clear cK0 cK1 cK2 cK3 cK4 cK5 cK6
  have hs := send_ok1 (emg 9) L9.out (by decide) (by decide)
  unfold Mg.val Mg.vals emg at hs
  have HS := Lib.hid hs; clear hs
  refine HS.out.mono ?_; rintro e w10 ⟨rfl, hl, hb⟩
  have L10 := Lib.hid hl; have Z10 := Lib.hid (But2.below Z9.out hb hg hr Z9.out.size)
  have M10 := Lib.hid (hb.blk M9.out (by omega) (by omega))
  have K10 := Lib.hid (hb.blk K9.out (by omega) (by omega))
  clear hl hb HS
  have L10 : Hid (LkRaw w10 g r 1 0 1 (fun _ => ⟨5, 9, 0, 0, 0, 0, 0⟩) 9 true) := L10
  go_wp2_with fail
  refine (ended_calls L10.out).mono ?_; rintro e w11 ⟨rfl, rfl⟩
  go_wp2_with fail
  have hs := take_yes1 L10.out
  unfold Mg.val Mg.vals at hs
  have HS := Lib.hid hs; clear hs
  refine HS.out.mono ?_; rintro e w11 ⟨rfl, hl, hb⟩
  have L11 := Lib.hid hl; have Z11 := Lib.hid (But2.below Z10.out (But2.of_left hb : But2 g r _ _) hg hr Z10.out.size)
  have M11 := Lib.hid (hb.blk M10.out (by omega))
  have K11 := Lib.hid (hb.blk K10.out (by omega))
  clear hl hb HS
  have cM0 : w11.cell? ⟨bM, 0, none⟩ = some (.int .i64 4) := Kit.cell M11.out 0 _ rfl
  have fM0 := Kit.frz M11.out 0
  have cM1 : w11.cell? ⟨bM, 1, none⟩ = some (.int .i64 5) := Kit.cell M11.out 1 _ rfl
  have fM1 := Kit.frz M11.out 1
  have cM2 : w11.cell? ⟨bM, 2, none⟩ = some (.int .i64 0) := Kit.cell M11.out 2 _ rfl
  have fM2 := Kit.frz M11.out 2
  have cM3 : w11.cell? ⟨bM, 3, none⟩ = some (.int .u8 0) := Kit.cell M11.out 3 _ rfl
  have fM3 := Kit.frz M11.out 3
  have cM4 : w11.cell? ⟨bM, 4, none⟩ = some (.int .i64 0) := Kit.cell M11.out 4 _ rfl
  have fM4 := Kit.frz M11.out 4
  have cM5 : w11.cell? ⟨bM, 5, none⟩ = some (.int .i64 0) := Kit.cell M11.out 5 _ rfl
  have fM5 := Kit.frz M11.out 5
  have cM6 : w11.cell? ⟨bM, 6, none⟩ = some (.int .u8 0) := Kit.cell M11.out 6 _ rfl
  have fM6 := Kit.frz M11.out 6
  go_upto_region 11 with (fail)
  clear cM0 fM0 cM1 fM1 cM2 fM2 cM3 fM3 cM4 fM4 cM5 fM5 cM6 fM6
  have hv : (((((((w11.setCell ⟨bM, 0, none⟩ (.int .i64 5)).setCell ⟨bM, 1, none⟩ (.int .i64 9)).setCell ⟨bM, 2, none⟩ (.int .i64 0)).setCell ⟨bM, 3, none⟩ (.int .u8 0)).setCell ⟨bM, 4, none⟩ (.int .i64 0)).setCell ⟨bM, 5, none⟩ (.int .i64 0)).setCell ⟨bM, 6, none⟩ (.int .u8 0)).heap[bM]? = some (.cells #[.int .i64 5, .int .i64 9, .int .i64 0, .int .u8 0, .int .i64 0, .int .i64 0, .int .u8 0] 33 (0, 0)) := (Kit.set_ (Kit.set_ (Kit.set_ (Kit.set_ (Kit.set_ (Kit.set_ (Kit.set_ M11.out 0 (.int .i64 5) rfl) 1 (.int .i64 9) rfl) 2 (.int .i64 0) rfl) 3 (.int .u8 0) rfl) 4 (.int .i64 0) rfl) 5 (.int .i64 0) rfl) 6 (.int .u8 0) rfl)
  have hbt : Kit.But bM w11 (((((((w11.setCell ⟨bM, 0, none⟩ (.int .i64 5)).setCell ⟨bM, 1, none⟩ (.int .i64 9)).setCell ⟨bM, 2, none⟩ (.int .i64 0)).setCell ⟨bM, 3, none⟩ (.int .u8 0)).setCell ⟨bM, 4, none⟩ (.int .i64 0)).setCell ⟨bM, 5, none⟩ (.int .i64 0)).setCell ⟨bM, 6, none⟩ (.int .u8 0)) := ((((((((Kit.But.refl bM w11).set_ 0 (.int .i64 5)).set_ 1 (.int .i64 9)).set_ 2 (.int .i64 0)).set_ 3 (.int .u8 0)).set_ 4 (.int .i64 0)).set_ 5 (.int .i64 0)).set_ 6 (.int .u8 0))
  generalize hW : World.setCell _ ⟨bM, 6, none⟩ _ = w12 at *
  have M12 := Lib.hid hv
  have K12 := Lib.hid (hbt.blk K11.out (by omega))
  have L12 := Lib.hid (L11.out.aside hbt (by omega) (by omega))
  have Z12 := Lib.hid (Kit.But.below Z11.out hbt (by omega) Z11.out.size)
  clear hW hv hbt
  have cM0 : w12.cell? ⟨bM, 0, none⟩ = some (.int .i64 5) := Kit.cell M12.out 0 _ rfl
  have cM1 : w12.cell? ⟨bM, 1, none⟩ = some (.int .i64 9) := Kit.cell M12.out 1 _ rfl
  have cM2 : w12.cell? ⟨bM, 2, none⟩ = some (.int .i64 0) := Kit.cell M12.out 2 _ rfl
  have cM3 : w12.cell? ⟨bM, 3, none⟩ = some (.int .u8 0) := Kit.cell M12.out 3 _ rfl
  have cM4 : w12.cell? ⟨bM, 4, none⟩ = some (.int .i64 0) := Kit.cell M12.out 4 _ rfl
  have cM5 : w12.cell? ⟨bM, 5, none⟩ = some (.int .i64 0) := Kit.cell M12.out 5 _ rfl
  have cM6 : w12.cell? ⟨bM, 6, none⟩ = some (.int .u8 0) := Kit.cell M12.out 6 _ rfl
  have cK0 : w12.cell? ⟨bK, 0, none⟩ = some (.int .i64 5) := Kit.cell K12.out 0 _ rfl
  have cK1 : w12.cell? ⟨bK, 1, none⟩ = some (.int .i64 9) := Kit.cell K12.out 1 _ rfl
  have cK2 : w12.cell? ⟨bK, 2, none⟩ = some (.int .i64 0) := Kit.cell K12.out 2 _ rfl
  have cK3 : w12.cell? ⟨bK, 3, none⟩ = some (.int .u8 0) := Kit.cell K12.out 3 _ rfl
  have cK4 : w12.cell? ⟨bK, 4, none⟩ = some (.int .i64 0) := Kit.cell K12.out 4 _ rfl
  have cK5 : w12.cell? ⟨bK, 5, none⟩ = some (.int .i64 0) := Kit.cell K12.out 5 _ rfl
  have cK6 : w12.cell? ⟨bK, 6, none⟩ = some (.int .u8 0) := Kit.cell K12.out 6 _ rfl
  have e1 := eqMg_rfl 5 9 0 0 0 0 0
  go_wp2_with fail
  clear cM0 cM1 cM2 cM3 cM4 cM5 cM6
  clear cK0 cK1 cK2 cK3 cK4 cK5 cK6
  refine (promise_calls 9 _).mono ?_; rintro e w13 ⟨rfl, hb⟩
  have L13 := Lib.hid (L12.out.kept hb); have Z13 := Lib.hid (Kit.then_ Z12.out hb)
  have M13 := Lib.hid (Kit.kept hb M12.out)
  have K13 := Lib.hid (Kit.kept hb K12.out)
  clear hb
  go_wp2_with fail
  have hs := send_ended (pmg 9) L13.out (by decide)
  unfold Mg.val Mg.vals pmg at hs
  have HS := Lib.hid hs; clear hs
  refine HS.out.mono ?_; rintro e w14 ⟨rfl, hb⟩
  clear HS
  have L14 := Lib.hid (L13.out.kept hb); have Z14 := Lib.hid (Kit.then_ Z13.out hb)
  have M14 := Lib.hid (Kit.kept hb M13.out)
  have K14 := Lib.hid (Kit.kept hb K13.out)
  clear hb
  go_wp2_with fail
  refine (len_calls L14.out).mono ?_; rintro e w15 ⟨rfl, rfl⟩
  go_wp2_with fail
  refine (room_calls L14.out).mono ?_; rintro e w15 ⟨rfl, hb⟩
  have L15 := Lib.hid (L14.out.kept hb); have Z15 := Lib.hid (Kit.then_ Z14.out hb)
  have M15 := Lib.hid (Kit.kept hb M14.out)
  have K15 := Lib.hid (Kit.kept hb K14.out)
  clear hb
  go_wp2_with fail
  refine (mark_calls L15.out).mono ?_; rintro e w16 ⟨rfl, rfl⟩
  go_wp2_with fail
  go_ret
  exact ⟨rfl, Z15.out⟩
end Go.Proofs.YthbbbmomlehimaaR.Lk
