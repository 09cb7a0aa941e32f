import Derived.Test.YthbbbmomlehimaaRRdB
import Derived.Deep.AppendLies
import Derived.Deep.RegionLaw
import Derived.Deep.Cut
set_option linter.unusedVariables false
namespace Go.Proofs.YthbbbmomlehimaaR.Rd
open Go.RowKit Ts Oc

def SV : Obj := .cells CLV 40 (0, 0)
def FV : Obj := .cells #[.map none, .map none, .slice none 0 0] 203 (0, 0)
def ZV : Obj := .cells #[.int .i64 0, .slice none 0 0, .slice none 0 0] 154 (0, 0)
/-- A picture under way: its pixels so far are all 0. -/
structure Pic (W0 w : World) (S R F p B : Nat) (bd : Value) (v : Value) (cnt : Nat) : Prop where
  sc : w.heap[S]? = some SV
  rc : w.heap[R]? = some ZV
  fc : w.heap[F]? = some FV
  pc : w.heap[p]? = some (.cells #[.int .i64 0, v, bd] 154 (0, 0))
  row : w.ownsRow B 5 1 v cnt (u8s (List.replicate cnt 0))
  bel : Below W0.heap.size W0 w
  pB : p < B
  sB : S < B
  rB : R < B
  fB : F < B
  wB : W0.heap.size ≤ p
  hB : B ≤ w.heap.size
  ne1 : S ≠ p
  ne2 : F ≠ p
  ne3 : R ≠ p
theorem Pic.below {W0 w w' : World} {S R F p B : Nat} {bd v : Value} {cnt : Nat} (h : Pic W0 w S R F p B bd v cnt) (hb : Below w.heap.size w w') : Pic W0 w' S R F p B bd v cnt :=
  ⟨Kit.kept hb h.sc, Kit.kept hb h.rc, Kit.kept hb h.fc, Kit.kept hb h.pc, Kit.own_below h.row hb, Kit.then_ h.bel hb, h.pB, h.sB, h.rB, h.fB, h.wB, Nat.le_trans h.hB hb.size, h.ne1, h.ne2, h.ne3⟩
theorem Pic.more {W0 w w1 w2 : World} {S R F p B : Nat} {bd v v' : Value} {cnt : Nat} (h : Pic W0 w S R F p B bd v cnt) (hb : Below w.heap.size w w1) (hg : w1.grownBy w2 v.ownBlock) (hown : w2.ownsRow B 5 1 v' (cnt + 1) (u8s (List.replicate cnt 0) ++ [.int .u8 0])) :
    Pic W0 (w2.setCell ⟨p, 1, none⟩ v') S R F p B bd v' (cnt + 1) := by
  have h1 := h.below hb
  have np := Kit.own_ne h1.row h.pB
  have hp2 := Kit.grown_blk h1.pc hg np
  have hrow : u8s (List.replicate cnt 0) ++ [.int .u8 0] = u8s (List.replicate (cnt + 1) 0) := by
    rw [List.replicate_succ', u8s, u8s, List.map_append]; rfl
  rw [hrow] at hown
  have hw0 : W0.heap.size ≤ B := by have := h.wB; have := h.pB; omega
  refine ⟨Kit.set_far (Kit.grown_blk h1.sc hg (Kit.own_ne h1.row h.sB)) _ (fun e => h.ne1 e.symm) _, Kit.set_far (Kit.grown_blk h1.rc hg (Kit.own_ne h1.row h.rB)) _ (fun e => h.ne3 e.symm) _, Kit.set_far (Kit.grown_blk h1.fc hg (Kit.own_ne h1.row h.fB)) _ (fun e => h.ne2 e.symm) _, Kit.set_ hp2 1 _ rfl, ?_, (Kit.grown_below h1.bel h1.row hg h1.bel.size hw0).setCell h.wB _, h.pB, h.sB, h.rB, h.fB, h.wB, by simp [World.setCell]; exact Nat.le_trans h1.hB hg.size, h.ne1, h.ne2, h.ne3⟩
  have hgs : w2.grownBy (w2.setCell ⟨p, 1, none⟩ v') (some p) := ⟨rfl, rfl, rfl, by simp [World.setCell], fun k hk hne => Below.heap_setCell w2 ⟨p, 1, none⟩ v' k (fun e => hne (by rw [e]))⟩
  exact hown.kept hgs (.inr (Kit.own_ne hown h.pB))

theorem below_drewN {B : Nat} {a w : World} (h : Below B a w) (n : Nat) : Below B a (w.drewN n) := ⟨h.os, h.tape, h.output, h.size, h.block⟩
theorem below_drew {B : Nat} {a w : World} (h : Below B a w) : Below B a w.drew := ⟨h.os, h.tape, h.output, h.size, h.block⟩
def mv (j : Nat) : Int := ((128 / 2 ^ j : Nat) : Int)
theorem mv_pos : ∀ j, j < 8 → (mv j != 0) = true ∧ mv j / 2 = mv (j + 1) ∧ 0 ≤ mv j ∧ mv j < 256 ∧ (bits .and .u8 0 (mv j) != 0) = false := by decide +kernel
set_option maxRecDepth 100000 in
set_option maxHeartbeats 4000000 in
theorem picture_calls (w : World) : Calls Try.prog 145 #[.agg CLV, .pointer none, .int .i64 0] w fun e w' => ∃ A c Ab cb, e = .returned (.agg #[.int .i64 0, .slice A 49152 c, .slice Ab 0 cb]) ∧ BytesAt w' A 49152 (List.replicate 49152 0) ∧ (∀ b off, A = some ⟨b, off, none⟩ → w.heap.size ≤ b) ∧ Below w.heap.size w w' := by
  obtain ⟨i0, hi, hz0, hz1, hz2⟩ := info_parts info5
  have HI := Lib.hid hi; have HZ0 := Lib.hid hz0; have HZ1 := Lib.hid hz1; have HZ2 := Lib.hid hz2; clear hi hz0 hz1 hz2
  go_enter Try.func145, Try.ntmps145
  go_wp2_with fail
  have B1 := Lib.hid (Kit.blk3a w SV ZV FV)
  have B2 := Lib.hid (Kit.blk3b w SV ZV FV)
  have B3 := Lib.hid (Kit.blk3c w SV ZV FV)
  have Z1 := Lib.hid (Kit.below3 w SV ZV FV)
  refine (clone_calls none 0 0 [] _ ⟨rfl, fun h => absurd h (by omega)⟩ (by omega)).mono ?_; rintro e w1 ⟨v1, rfl, hown, hb⟩
  obtain ⟨Ab, cb, rfl, _, _⟩ := BytesAt.of_own hown
  have C1 := Lib.hid (Kit.kept hb B1.out); have C2 := Lib.hid (Kit.kept hb B2.out); have C3 := Lib.hid (Kit.kept hb B3.out)
  have Z2 := Lib.hid (Kit.then_ Z1.out hb)
  have hz := hb.size
  simp at hz
  clear hown hb B1 B2 B3 Z1
  go_upto_region 4 with (fail)
  have hpic : Pic w (w1.alloc (.cells #[.int .i64 0, .slice none 0 0, .slice Ab 0 cb] 154 (0, 0))) w.heap.size (w.heap.size + 1) (w.heap.size + 2) w1.heap.size (w1.heap.size + 1) (.slice Ab 0 cb) (.slice none 0 0) 0 :=
    ⟨Kit.blk_old C1.out _, Kit.blk_old C2.out _, Kit.blk_old C3.out _, Kit.blk1 _ _, World.ownsRow_nil _ _ _ _, Z2.out.alloc Z2.out.size _, by omega, by omega, by omega, by omega, by omega, by simp, by omega, by omega, by omega⟩
  have HP := Lib.hid hpic; clear hpic C1 C2 C3 Z2
  generalize w1.alloc (.cells #[.int .i64 0, .slice none 0 0, .slice Ab 0 cb] 154 (0, 0)) = w2 at *
  generalize hP : w1.heap.size = P at *
  clear hP
  have c3 : w2.cell? ⟨w.heap.size, 3, none⟩ = some (.int .i64 192) := Kit.cell HP.out.sc 3 _ rfl
  go_wp2_with fail
  clear c3
  go_loopw [28] (fun t wr => ∃ y : Nat, y ≤ 192 ∧ t = .int .i64 y ∧ Hid (∃ v, Pic w wr w.heap.size (w.heap.size + 1) (w.heap.size + 2) P (P + 1) (.slice Ab 0 cb) v (y * 256))) (fun t _ => 192 - (intOf t).toNat)
  case atStart => exact ⟨0, by omega, rfl, _, HP.out⟩
  case round =>
    obtain ⟨y, hy, rfl, HPv⟩ := hrel
    obtain ⟨v, hp⟩ := HPv.out
    have HP1 := Lib.hid hp; clear hp HPv HP
    by_cases hlt : y < 192
    · have dk : decide ((y : Int) < 192) = true := decide_eq_true (by omega)
      have c5 : wr.cell? ⟨w.heap.size, 5, none⟩ = some (.int .i64 32) := Kit.cell HP1.out.sc 5 _ rfl
      go_wp2_with fail
      clear c5
      obtain ⟨wo, rfl⟩ : ∃ wo : World, wo = wr := ⟨_, rfl⟩
      go_loopw [33] (fun t wi => ∃ x : Nat, x ≤ 32 ∧ t = .int .i64 x ∧ Hid (∃ v, Pic w wi w.heap.size (w.heap.size + 1) (w.heap.size + 2) P (P + 1) (.slice Ab 0 cb) v (y * 256 + x * 8))) (fun t _ => 32 - (intOf t).toNat)
      case atStart => exact ⟨0, by omega, rfl, _, HP1.out⟩
      case round =>
        obtain ⟨x, hx, rfl, HPv⟩ := hrel
        obtain ⟨v, hp⟩ := HPv.out
        have HP2 := Lib.hid hp; clear hp HPv HP1
        by_cases hltx : x < 32
        · have dkx : decide ((x : Int) < 32) = true := decide_eq_true (by omega)
          have s0 : wr.cell? ⟨w.heap.size, 0, none⟩ = some (.int .i64 311) := Kit.cell HP2.out.sc 0 _ rfl
          have s1 : wr.cell? ⟨w.heap.size, 1, none⟩ = some (.int .i64 228) := Kit.cell HP2.out.sc 1 _ rfl
          have s2 : wr.cell? ⟨w.heap.size, 2, none⟩ = some (.int .i64 63) := Kit.cell HP2.out.sc 2 _ rfl
          have s3 : wr.cell? ⟨w.heap.size, 3, none⟩ = some (.int .i64 192) := Kit.cell HP2.out.sc 3 _ rfl
          have s4 : wr.cell? ⟨w.heap.size, 4, none⟩ = some (.int .i64 14) := Kit.cell HP2.out.sc 4 _ rfl
          have s5 : wr.cell? ⟨w.heap.size, 5, none⟩ = some (.int .i64 32) := Kit.cell HP2.out.sc 5 _ rfl
          have s6 : wr.cell? ⟨w.heap.size, 6, none⟩ = some (.int .i64 36) := Kit.cell HP2.out.sc 6 _ rfl
          go_wp2_with fail
          clear s0 s1 s2 s3 s4 s5 s6
          refine (when_calls x y _ hltx hlt).mono ?_; rintro e w3 ⟨tt, rfl, hb⟩
          have HP3 := Lib.hid (HP2.out.below hb); clear hb HP2
          have f0 : w3.cell? ⟨w.heap.size + 1 + 1, 0, none⟩ = some (.map none) := Kit.cell HP3.out.fc 0 _ rfl
          have f1 : w3.cell? ⟨w.heap.size + 1 + 1, 1, none⟩ = some (.map none) := Kit.cell HP3.out.fc 1 _ rfl
          have hlk := look_nil
          go_wp2_with fail
          go_quiet (fail)
          go_upto_region 12 with (fail)
          clear hlk f0 f1
          generalize hW : World.drewN w3 _ = w4
          have hb4 : Below w3.heap.size w3 w4 := by rw [← hW]; exact below_drewN (Below.refl _ _) _
          have HP4 := Lib.hid (HP3.out.below hb4); clear hb4 hW HP3
          have m0 : (128 : Int) = mv 0 := rfl
          go_wp2_with fail
          go_loopw [14] (fun t wj => ∃ j : Nat, j ≤ 8 ∧ t = .int .u8 (mv j) ∧ Hid (∃ v, Pic w wj w.heap.size (w.heap.size + 1) (w.heap.size + 2) P (P + 1) (.slice Ab 0 cb) v (y * 256 + x * 8 + j))) (fun t _ => (intOf t).toNat)
          case atStart => exact ⟨0, by omega, rfl, _, HP4.out⟩
          case round =>
            clear m0
            obtain ⟨j, hj, rfl, HPv⟩ := hrel
            obtain ⟨v, hp⟩ := HPv.out
            have HP5 := Lib.hid hp; clear hp HPv HP4
            by_cases hltj : j < 8
            · obtain ⟨e1, e2, e3, e4, e5⟩ := mv_pos j hltj
              have hne : mv j ≠ 0 := by simpa using e1
              have E2 := Lib.hid e2; clear e2
              generalize mv j = M at *
              have p1 : wr.cell? ⟨P, 1, none⟩ = some v := Kit.cell HP5.out.pc 1 _ rfl
              have hf := Kit.frz HP5.out.pc 1
              have hc0 : ∀ W : World, Calls Try.prog 43 #[.int .u8 0, .bool false, .int .i64 0] W fun e w' => e = .returned (.int .u8 0) ∧ W = w' := fun W => colour_calls 0 0 false W (by omega) (by omega) (by omega) (by omega)
              have HC := Lib.hid hc0; clear hc0
              have hsz := HP5.out.hB
              have ag := Kit.own_ne HP5.out.row HP5.out.pB
              have lp := Kit.lt HP5.out.pc
              have HO : Hid (wr.ownsRow (P + 1) 5 1 v (y * 256 + x * 8 + j) (u8s (List.replicate (y * 256 + x * 8 + j) 0))) := HP5.out.row
              have n3 : y * 256 + x * 8 + j + 1 ≤ maxLen := by simp [maxLen]; omega
              have n4 : (y * 256 + x * 8 + j + 1) * 1 ≤ 140737488355328 := by omega
              generalize hcnt : y * 256 + x * 8 + j = cnt at *
              have HCNT := Lib.hid hcnt; clear hcnt
              go_upto_region 15 with (fail)
              have hnew := World.new_ne wr ⟨P, 1, none⟩ p1
              go_region_law (first
                | (refine step_append_lies _ (by rfl) _ _ _ (by rfl) (P + 1) 5 i0 _ 1 1 Try.underlying68 HI.out HZ0.out HZ1.out HZ2.out rfl (by omega) v cnt (u8s (List.replicate cnt 0)) (by rfl) ((HO.out.alloc _).drew)
                      ⟨wr.heap.size, 0, none⟩ 1 1 [.int .u8 0] (by rfl) (by rfl) (World.news_of_block (cs := #[.int .u8 0]) (t := 5) (fr := (0, 0)) (heap_alloc_new wr _)) (by simp [Value.oneCell'])
                      (by omega) n3 n4 (by simp; omega) (wr.heap.size + 1) (by simp) ?_; intro gg cap w5 hown1 hgrow hat hltt; have hf5 : w5.frozen? ⟨P, 1, none⟩ = false := (hgrow.frozen_far _ (by simp; omega) (Ne.symm ag)).trans (((Kit.below1 wr _).frozen (p := ⟨P, 1, none⟩) lp).trans hf); have hc5 : w5.cell? ⟨P, 1, none⟩ = some v := (hgrow.cell_far _ (by simp; omega) (Ne.symm ag)).trans (((Kit.below1 wr _).cell (p := ⟨P, 1, none⟩) lp).trans p1))
                | (go_simp; go_at_call 43; refine (HC.out _).mono ?_; rintro e w5 ⟨rfl, rfl⟩))
              all_goals
                have HP6 := Lib.hid (HP5.out.more (below_drew (Kit.below1 wr _)) hgrow hown1)
                have hMn : M / 2 < M := by omega
                have hMp : 0 ≤ M / 2 := by omega
                clear hown1 hgrow hat hltt hf5 hc5 p1 hf hnew
                go_wp2_with fail
                go_roundw
                case rel => exact ⟨j + 1, by omega, by rw [E2.out], Kit.hid_mk ⟨_, by rw [← Nat.add_assoc, HCNT.out]; exact HP6.out⟩⟩
                case measure => simp [intOf]; omega
            · obtain rfl : j = 8 := by omega
              have e1 : (mv 8 != 0) = false := by decide
              go_wp2_with fail
              go_roundw
              case rel => exact ⟨x + 1, by omega, by go_num, Kit.hid_mk ⟨v, by have h := HP5.out; rwa [show y * 256 + x * 8 + 8 = y * 256 + (x + 1) * 8 by omega] at h⟩⟩
              case measure => simp [intOf]; omega
        · have dkx : decide ((x : Int) < 32) = false := decide_eq_false (by omega)
          obtain rfl : x = 32 := by omega
          go_wp2_with fail
          go_roundw
          case rel => exact ⟨y + 1, by omega, by go_num, Kit.hid_mk ⟨v, by have h := HP2.out; rwa [show y * 256 + 32 * 8 = (y + 1) * 256 by omega] at h⟩⟩
          case measure => simp [intOf]; omega
    · have dk : decide ((y : Int) < 192) = false := decide_eq_false (by omega)
      obtain rfl : y = 192 := by omega
      obtain ⟨A, c, rfl, hc, hba⟩ := BytesAt.of_own HP1.out.row
      have p0 : wr.cell? ⟨P, 0, none⟩ = some (.int .i64 0) := Kit.cell HP1.out.pc 0 _ rfl
      have p1 : wr.cell? ⟨P, 1, none⟩ = some (.slice A (192 * 256) c) := Kit.cell HP1.out.pc 1 _ rfl
      have p2 : wr.cell? ⟨P, 2, none⟩ = some (.slice Ab 0 cb) := Kit.cell HP1.out.pc 2 _ rfl
      have r0 : wr.cell? ⟨w.heap.size + 1, 0, none⟩ = some (.int .i64 0) := Kit.cell HP1.out.rc 0 _ rfl
      have r1 : wr.cell? ⟨w.heap.size + 1, 1, none⟩ = some (.slice none 0 0) := Kit.cell HP1.out.rc 1 _ rfl
      have r2 : wr.cell? ⟨w.heap.size + 1, 2, none⟩ = some (.slice none 0 0) := Kit.cell HP1.out.rc 2 _ rfl
      have g0 := Kit.frz HP1.out.rc 0
      have g1 := Kit.frz HP1.out.rc 1
      have g2 := Kit.frz HP1.out.rc 2
      have HBA := Lib.hid hba; clear hba
      go_wp2_with fail
      have hv := Kit.set_ (Kit.set_ (Kit.set_ HP1.out.rc 0 (.int .i64 0) rfl) 1 (.slice A (192 * 256) c) rfl) 2 (.slice Ab 0 cb) rfl
      have hz9 : Below w.heap.size w (((wr.setCell ⟨w.heap.size + 1, 0, none⟩ (.int .i64 0)).setCell ⟨w.heap.size + 1, 1, none⟩ (.slice A (192 * 256) c)).setCell ⟨w.heap.size + 1, 2, none⟩ (.slice Ab 0 cb)) := ((HP1.out.bel.setCell (by simp) _).setCell (by simp) _).setCell (by simp) _
      have hb9 : BytesAt (((wr.setCell ⟨w.heap.size + 1, 0, none⟩ (.int .i64 0)).setCell ⟨w.heap.size + 1, 1, none⟩ (.slice A (192 * 256) c)).setCell ⟨w.heap.size + 1, 2, none⟩ (.slice Ab 0 cb)) A (192 * 256) (List.replicate (192 * 256) 0) := by
        have hbt := (((Kit.But.refl (w.heap.size + 1) wr).set_ 0 (.int .i64 0)).set_ 1 (.slice A (192 * 256) c)).set_ 2 (.slice Ab 0 cb)
        refine ⟨HBA.out.1, fun hn => ?_⟩
        obtain ⟨b, off, e, hlt, hcc⟩ := HBA.out.2 hn
        have hbP : P + 1 ≤ b := by
          subst e
          exact (HP1.out.row.lt b rfl).1
        refine ⟨b, off, e, Nat.lt_of_lt_of_le hlt hbt.size, fun i hi => ?_⟩
        exact (World.cell?_of_block (w := wr) (a := ⟨b, _, none⟩) (hbt.block b hlt (by omega))).trans (hcc i hi)
      have hnew : ∀ b off, A = some ⟨b, off, none⟩ → w.heap.size ≤ b := fun b off e => by
        subst e
        have := (HP1.out.row.lt b rfl).1
        omega
      have HNW := Lib.hid hnew; clear hnew
      generalize hW : World.setCell _ ⟨w.heap.size + 1, 2, none⟩ _ = w9 at *
      have HV9 := Lib.hid hv; have HZ9 := Lib.hid hz9; have HB9 := Lib.hid hb9; clear hW hv hz9 hb9
      exact bodyPost_ret (Kit.res_c rfl (w.heap.size + 1) rfl HV9.out Try.underlying154 rfl (by kernel_rfl)) rfl ⟨A, c, Ab, cb, rfl, HB9.out, HNW.out, HZ9.out⟩
end Go.Proofs.YthbbbmomlehimaaR.Rd
