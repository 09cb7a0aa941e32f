import Derived.Test.YthbbbmomlehimaaRTsF
set_option linter.unusedVariables false
namespace Go.Proofs.YthbbbmomlehimaaR.Ts
open Go.RowKit Oc

/-- A reader behind i counts, and what the i-th tells. -/
def st (l : List Int) : Nat → List Int × Int
  | 0 => (l, 0)
  | i + 1 => (ct (st l i).1 (st l i).2 1000).2
def xs (l : List Int) (i : Nat) : Int := (ct (st l i).1 (st l i).2 1000).1
def Scr.read (l : List Int) : Scr := ⟨xs l 0, xs l 1, xs l 2, xs l 3, xs l 4, xs l 5, xs l 6⟩
def readOk (l : List Int) : Bool := en (st l 7).1 (st l 7).2 == 0 && (Scr.read l).ok

theorem bytes_scr {w : World} {A : Option Addr} {n b : Nat} {l : List Int} {s : Scr} (h : BytesAt w A n l) (hb : w.heap[b]? = some (.cells s.vals 40 (0, 0))) (j : Nat) (u : Value) : BytesAt (w.setCell ⟨b, j, none⟩ u) A n l := by
  refine ⟨h.1, fun hn => ?_⟩
  obtain ⟨b', off, e, hlt, hc⟩ := h.2 hn
  have hne : b' ≠ b := by
    rintro rfl
    have h0 := hc 0 hn
    rw [cell_of_row w b' (off + 0) _ _ _ hb] at h0
    unfold Scr.vals at h0
    match off, h0 with
    | 0, h0 => simp at h0
    | 1, h0 => simp at h0
    | 2, h0 => simp at h0
    | 3, h0 => simp at h0
    | 4, h0 => simp at h0
    | 5, h0 => simp at h0
    | 6, h0 => simp at h0
    | k + 7, h0 => simp at h0
  refine ⟨b', off, e, by simpa [World.setCell] using hlt, fun i hi => ?_⟩
  rw [World.cell?_setCell_other]
  · exact hc i hi
  · intro e2; injection e2 with e3; exact hne e3.symm
theorem rd_scr {w : World} {g b : Nat} {l : List Int} {err : Int} {s : Scr} (h : RdAt w g l err) (hb : w.heap[b]? = some (.cells s.vals 40 (0, 0))) (hne : b ≠ g) (j : Nat) (u : Value) : RdAt (w.setCell ⟨b, j, none⟩ u) g l err := by
  obtain ⟨A, n, c, h1, h2, h3⟩ := h
  exact ⟨A, n, c, Kit.set_far h1 _ hne u, bytes_scr h2 hb j u, h3⟩

theorem count_st (w : World) (g : Nat) (l : List Int) (i : Nat) (h : RdAt w g (st l i).1 (st l i).2) :
    Calls Try.prog 108 #[.pointer (some ⟨g, 0, none⟩), .int .i64 1000] w fun e w' => e = .returned (.int .i64 (xs l i)) ∧ RdAt w' g (st l (i + 1)).1 (st l (i + 1)).2 ∧ Kit.But g w w' := count_calls w g _ _ h
def ptrs (b2 : Nat) : Array Value := #[.pointer (some ⟨b2, 0, none⟩), .pointer (some ⟨b2, 1, none⟩), .pointer (some ⟨b2, 2, none⟩), .pointer (some ⟨b2, 3, none⟩), .pointer (some ⟨b2, 4, none⟩), .pointer (some ⟨b2, 5, none⟩), .pointer (some ⟨b2, 6, none⟩)]
theorem rd_lt {w : World} {g : Nat} {l : List Int} {err : Int} (h : RdAt w g l err) : g < w.heap.size := by
  obtain ⟨_, _, _, h1, _⟩ := h; exact Kit.lt h1
def readVal (l : List Int) : Array Value := if readOk l then #[(Scr.read l).val, .int .i64 0] else #[.agg #[.int .i64 0, .int .i64 0, .int .i64 0, .int .i64 0, .int .i64 0, .int .i64 0, .int .i64 0], .int .i64 4]
theorem readVal_yes {l : List Int} (h : readOk l = true) : readVal l = #[(Scr.read l).val, .int .i64 0] := by rw [readVal, if_pos h]
theorem readVal_no {l : List Int} (h : readOk l = false) : readVal l = #[.agg #[.int .i64 0, .int .i64 0, .int .i64 0, .int .i64 0, .int .i64 0, .int .i64 0, .int .i64 0], .int .i64 4] := by rw [readVal, if_neg (by rw [h]; decide)]
/-- What stands in memory ahead of the i-th number. -/
structure Mid (w W : World) (l : List Int) (g b0 b2 : Nat) (s : Scr) (i : Nat) : Prop where
  z : W.heap[b0]? = some (.cells #[.int .i64 0, .int .i64 0, .int .i64 0, .int .i64 0, .int .i64 0, .int .i64 0, .int .i64 0] 40 (0, 0))
  v : W.heap[b2]? = some (.cells s.vals 40 (0, 0))
  p : W.heap[b2 + 1]? = some (.cells (ptrs b2) 149 (0, 0))
  r : RdAt W g (st l i).1 (st l i).2
  h : Below b0 w W
  n0 : b0 < b2
  n1 : g < b2
  n2 : b0 < g
theorem Mid.but {w W W' : World} {l : List Int} {g b0 b2 : Nat} {s : Scr} {i : Nat} (m : Mid w W l g b0 b2 s i) (hb : Kit.But g W W') (hr : RdAt W' g (st l (i + 1)).1 (st l (i + 1)).2) : Mid w W' l g b0 b2 s (i + 1) :=
  ⟨hb.blk m.z (by have := m.n2; omega), hb.blk m.v (by have := m.n1; omega), hb.blk m.p (by have := m.n1; omega), hr, Kit.But.below m.h hb (by have := m.n2; omega) (by have := Kit.lt m.z; omega), m.n0, m.n1, m.n2⟩
theorem Mid.set_ {w W : World} {l : List Int} {g b0 b2 : Nat} {s s' : Scr} {i : Nat} (m : Mid w W l g b0 b2 s i) (j : Nat) (x : Int) (e : s.vals.setIfInBounds j (.int .i64 x) = s'.vals) : Mid w (W.setCell ⟨b2, j, none⟩ (.int .i64 x)) l g b0 b2 s' i :=
  ⟨Kit.set_far m.z _ (by have := m.n0; simp; omega) _, Kit.set_ m.v j _ e, Kit.set_far m.p _ (by simp) _, rd_scr m.r m.v (by have := m.n1; omega) j _, m.h.setCell (by have := m.n0; simp; omega) _, m.n0, m.n1, m.n2⟩

set_option maxRecDepth 100000 in
set_option maxHeartbeats 1000000 in
theorem read_calls (A : Option Addr) (n c : Nat) (l : List Int) (w : World) (hb : BytesAt w A n l) (hn : n ≤ 140737488351232) (hl : ∀ b ∈ l, 0 ≤ b ∧ b < 256) :
    Calls Try.prog 39 #[.slice A n c] w fun e w' => e = .returned (.tuple (readVal l)) ∧ Below w.heap.size w w' := by
  have HB := Lib.hid hb; have HL := Lib.hid hl; clear hb hl
  go_enter Try.func39, Try.ntmps39
  go_wp2_with fail
  refine (new_calls A n c l _ (HB.out.below (Kit.below1 _ _)) hn HL.out).mono ?_; rintro e w0 ⟨g, rfl, hg, hrd, hb⟩
  have B0 := Kit.kept hb (Kit.blk1 _ _)
  have hB := Kit.then_ (Kit.below1 _ _) hb
  have hz := hb.size; simp at hz hg
  have hgl := rd_lt hrd
  have hM : Mid w _ l g w.heap.size w0.heap.size ⟨0, 0, 0, 0, 0, 0, 0⟩ 0 := ⟨Kit.kept (Kit.below2 _ _ _) B0, Kit.blk2a w0 (.cells #[.int .i64 0, .int .i64 0, .int .i64 0, .int .i64 0, .int .i64 0, .int .i64 0, .int .i64 0] 40 (0, 0)) (.cells (ptrs w0.heap.size) 149 (0, 0)), Kit.blk2b _ _ _, hrd.below (Kit.below2 _ _ _), (hB.alloc (by omega) _).alloc (by simp; omega) _, by omega, by omega, by omega⟩
  clear hb B0 hB hrd
  go_wp2_with fail
  refine wp_loop_rounds 8 ?_
  rw [rounds_succ]
  change Mid w ((w0.alloc (.cells #[.int .i64 0, .int .i64 0, .int .i64 0, .int .i64 0, .int .i64 0, .int .i64 0, .int .i64 0] 40 (0, 0))).alloc (.cells #[.pointer (some ⟨w0.heap.size, 0, none⟩), .pointer (some ⟨w0.heap.size, 1, none⟩), .pointer (some ⟨w0.heap.size, 2, none⟩), .pointer (some ⟨w0.heap.size, 3, none⟩), .pointer (some ⟨w0.heap.size, 4, none⟩), .pointer (some ⟨w0.heap.size, 5, none⟩), .pointer (some ⟨w0.heap.size, 6, none⟩)] 149 (0, 0))) l g w.heap.size w0.heap.size _ 0 at hM
  generalize ((w0.alloc (.cells #[.int .i64 0, .int .i64 0, .int .i64 0, .int .i64 0, .int .i64 0, .int .i64 0, .int .i64 0] 40 (0, 0))).alloc (.cells #[.pointer (some ⟨w0.heap.size, 0, none⟩), .pointer (some ⟨w0.heap.size, 1, none⟩), .pointer (some ⟨w0.heap.size, 2, none⟩), .pointer (some ⟨w0.heap.size, 3, none⟩), .pointer (some ⟨w0.heap.size, 4, none⟩), .pointer (some ⟨w0.heap.size, 5, none⟩), .pointer (some ⟨w0.heap.size, 6, none⟩)] 149 (0, 0))) = W0 at *
  generalize w0.heap.size = b2 at *
  have HM0 := Lib.hid hM; clear hM hz hg hgl
  have pc0 : W0.cell? ⟨b2 + 1, 0, none⟩ = some (.pointer (some ⟨b2, 0, none⟩)) := Kit.cell HM0.out.p 0 _ rfl
  go_wp2_with fail
  refine (count_st W0 g l 0 HM0.out.r).mono ?_; rintro e V0 ⟨rfl, hr, hb⟩
  clear pc0
  have HV0 := Lib.hid (HM0.out.but hb hr); clear hr hb
  have sc0 : V0.cell? ⟨b2, 0, none⟩ = some (.int .i64 0) := Kit.cell HV0.out.v 0 _ rfl
  have sf0 : V0.frozen? ⟨b2, 0, none⟩ = false := Kit.frz HV0.out.v 0
  go_wp2_with fail
  have hM : Mid w _ l g w.heap.size b2 ⟨xs l 0, 0, 0, 0, 0, 0, 0⟩ 1 := HV0.out.set_ 0 (xs l 0) rfl
  clear sc0 sf0
  generalize (World.setCell V0 ⟨b2, 0, none⟩ (.int .i64 (xs l 0))) = W1 at *
  have HM1 := Lib.hid hM; clear hM
  rw [rounds_succ]
  have pc1 : W1.cell? ⟨b2 + 1, 1, none⟩ = some (.pointer (some ⟨b2, 1, none⟩)) := Kit.cell HM1.out.p 1 _ rfl
  go_wp2_with fail
  refine (count_st W1 g l 1 HM1.out.r).mono ?_; rintro e V1 ⟨rfl, hr, hb⟩
  clear pc1
  have HV1 := Lib.hid (HM1.out.but hb hr); clear hr hb
  have sc1 : V1.cell? ⟨b2, 1, none⟩ = some (.int .i64 0) := Kit.cell HV1.out.v 1 _ rfl
  have sf1 : V1.frozen? ⟨b2, 1, none⟩ = false := Kit.frz HV1.out.v 1
  go_wp2_with fail
  have hM : Mid w _ l g w.heap.size b2 ⟨xs l 0, xs l 1, 0, 0, 0, 0, 0⟩ 2 := HV1.out.set_ 1 (xs l 1) rfl
  clear sc1 sf1
  generalize (World.setCell V1 ⟨b2, 1, none⟩ (.int .i64 (xs l 1))) = W2 at *
  have HM2 := Lib.hid hM; clear hM
  rw [rounds_succ]
  have pc2 : W2.cell? ⟨b2 + 1, 2, none⟩ = some (.pointer (some ⟨b2, 2, none⟩)) := Kit.cell HM2.out.p 2 _ rfl
  go_wp2_with fail
  refine (count_st W2 g l 2 HM2.out.r).mono ?_; rintro e V2 ⟨rfl, hr, hb⟩
  clear pc2
  have HV2 := Lib.hid (HM2.out.but hb hr); clear hr hb
  have sc2 : V2.cell? ⟨b2, 2, none⟩ = some (.int .i64 0) := Kit.cell HV2.out.v 2 _ rfl
  have sf2 : V2.frozen? ⟨b2, 2, none⟩ = false := Kit.frz HV2.out.v 2
  go_wp2_with fail
  have hM : Mid w _ l g w.heap.size b2 ⟨xs l 0, xs l 1, xs l 2, 0, 0, 0, 0⟩ 3 := HV2.out.set_ 2 (xs l 2) rfl
  clear sc2 sf2
  generalize (World.setCell V2 ⟨b2, 2, none⟩ (.int .i64 (xs l 2))) = W3 at *
  have HM3 := Lib.hid hM; clear hM
  rw [rounds_succ]
  have pc3 : W3.cell? ⟨b2 + 1, 3, none⟩ = some (.pointer (some ⟨b2, 3, none⟩)) := Kit.cell HM3.out.p 3 _ rfl
  go_wp2_with fail
  refine (count_st W3 g l 3 HM3.out.r).mono ?_; rintro e V3 ⟨rfl, hr, hb⟩
  clear pc3
  have HV3 := Lib.hid (HM3.out.but hb hr); clear hr hb
  have sc3 : V3.cell? ⟨b2, 3, none⟩ = some (.int .i64 0) := Kit.cell HV3.out.v 3 _ rfl
  have sf3 : V3.frozen? ⟨b2, 3, none⟩ = false := Kit.frz HV3.out.v 3
  go_wp2_with fail
  have hM : Mid w _ l g w.heap.size b2 ⟨xs l 0, xs l 1, xs l 2, xs l 3, 0, 0, 0⟩ 4 := HV3.out.set_ 3 (xs l 3) rfl
  clear sc3 sf3
  generalize (World.setCell V3 ⟨b2, 3, none⟩ (.int .i64 (xs l 3))) = W4 at *
  have HM4 := Lib.hid hM; clear hM
  rw [rounds_succ]
  have pc4 : W4.cell? ⟨b2 + 1, 4, none⟩ = some (.pointer (some ⟨b2, 4, none⟩)) := Kit.cell HM4.out.p 4 _ rfl
  go_wp2_with fail
  refine (count_st W4 g l 4 HM4.out.r).mono ?_; rintro e V4 ⟨rfl, hr, hb⟩
  clear pc4
  have HV4 := Lib.hid (HM4.out.but hb hr); clear hr hb
  have sc4 : V4.cell? ⟨b2, 4, none⟩ = some (.int .i64 0) := Kit.cell HV4.out.v 4 _ rfl
  have sf4 : V4.frozen? ⟨b2, 4, none⟩ = false := Kit.frz HV4.out.v 4
  go_wp2_with fail
  have hM : Mid w _ l g w.heap.size b2 ⟨xs l 0, xs l 1, xs l 2, xs l 3, xs l 4, 0, 0⟩ 5 := HV4.out.set_ 4 (xs l 4) rfl
  clear sc4 sf4
  generalize (World.setCell V4 ⟨b2, 4, none⟩ (.int .i64 (xs l 4))) = W5 at *
  have HM5 := Lib.hid hM; clear hM
  rw [rounds_succ]
  have pc5 : W5.cell? ⟨b2 + 1, 5, none⟩ = some (.pointer (some ⟨b2, 5, none⟩)) := Kit.cell HM5.out.p 5 _ rfl
  go_wp2_with fail
  refine (count_st W5 g l 5 HM5.out.r).mono ?_; rintro e V5 ⟨rfl, hr, hb⟩
  clear pc5
  have HV5 := Lib.hid (HM5.out.but hb hr); clear hr hb
  have sc5 : V5.cell? ⟨b2, 5, none⟩ = some (.int .i64 0) := Kit.cell HV5.out.v 5 _ rfl
  have sf5 : V5.frozen? ⟨b2, 5, none⟩ = false := Kit.frz HV5.out.v 5
  go_wp2_with fail
  have hM : Mid w _ l g w.heap.size b2 ⟨xs l 0, xs l 1, xs l 2, xs l 3, xs l 4, xs l 5, 0⟩ 6 := HV5.out.set_ 5 (xs l 5) rfl
  clear sc5 sf5
  generalize (World.setCell V5 ⟨b2, 5, none⟩ (.int .i64 (xs l 5))) = W6 at *
  have HM6 := Lib.hid hM; clear hM
  rw [rounds_succ]
  have pc6 : W6.cell? ⟨b2 + 1, 6, none⟩ = some (.pointer (some ⟨b2, 6, none⟩)) := Kit.cell HM6.out.p 6 _ rfl
  go_wp2_with fail
  refine (count_st W6 g l 6 HM6.out.r).mono ?_; rintro e V6 ⟨rfl, hr, hb⟩
  clear pc6
  have HV6 := Lib.hid (HM6.out.but hb hr); clear hr hb
  have sc6 : V6.cell? ⟨b2, 6, none⟩ = some (.int .i64 0) := Kit.cell HV6.out.v 6 _ rfl
  have sf6 : V6.frozen? ⟨b2, 6, none⟩ = false := Kit.frz HV6.out.v 6
  go_wp2_with fail
  have hM : Mid w _ l g w.heap.size b2 ⟨xs l 0, xs l 1, xs l 2, xs l 3, xs l 4, xs l 5, xs l 6⟩ 7 := HV6.out.set_ 6 (xs l 6) rfl
  clear sc6 sf6
  generalize (World.setCell V6 ⟨b2, 6, none⟩ (.int .i64 (xs l 6))) = W7 at *
  have HM7 := Lib.hid hM; clear hM
  rw [rounds_succ]
  go_wp2_with fail
  refine (end_calls W7 g _ _ HM7.out.r).mono ?_; rintro e w8 ⟨rfl, hr, hb⟩
  have hz := Kit.But.blk hb HM7.out.z (by have := HM7.out.n2; omega)
  have hv := Kit.But.blk hb HM7.out.v (by have := HM7.out.n1; omega)
  have hB : Below w.heap.size w w8 := Kit.But.below HM7.out.h hb (by have := HM7.out.n2; omega) (by have := Kit.lt HM7.out.z; omega)
  clear hr hb
  have hsz := hB.size
  have v0 : w8.cell? ⟨b2, 0, none⟩ = some (.int .i64 (xs l 0)) := Kit.cell hv 0 _ rfl
  have v1 : w8.cell? ⟨b2, 1, none⟩ = some (.int .i64 (xs l 1)) := Kit.cell hv 1 _ rfl
  have v2 : w8.cell? ⟨b2, 2, none⟩ = some (.int .i64 (xs l 2)) := Kit.cell hv 2 _ rfl
  have v3 : w8.cell? ⟨b2, 3, none⟩ = some (.int .i64 (xs l 3)) := Kit.cell hv 3 _ rfl
  have v4 : w8.cell? ⟨b2, 4, none⟩ = some (.int .i64 (xs l 4)) := Kit.cell hv 4 _ rfl
  have v5 : w8.cell? ⟨b2, 5, none⟩ = some (.int .i64 (xs l 5)) := Kit.cell hv 5 _ rfl
  have v6 : w8.cell? ⟨b2, 6, none⟩ = some (.int .i64 (xs l 6)) := Kit.cell hv 6 _ rfl
  have HV := Lib.hid hv; have HZ := Lib.hid hz; have HB8 := Lib.hid hB; clear hv hz hB
  have hro : readOk l = (en (st l 7).1 (st l 7).2 == 0 && (Scr.read l).ok) := rfl
  generalize en (st l 7).1 (st l 7).2 = E at *
  by_cases he : E = 0
  · subst he
    have hck := check_calls (Scr.read l) w8
    cases hk : (Scr.read l).ok
    · rw [Scr.code_no hk] at hck
      rw [hk] at hro
      have HRO : Hid (readOk l = false) := hro
      have HC := Lib.hid hck; clear hck hk hro
      unfold Scr.val Scr.vals Scr.read at *
      go_wp2_with fail
      refine HC.out.mono ?_; rintro e w9 ⟨rfl, hb⟩
      have Z9 := Kit.kept hb HZ.out
      have B9 := Lib.hid (Kit.then_ (w1 := w8) (HB8.out) hb); clear hb
      have z0 : w9.cell? ⟨w.heap.size, 0, none⟩ = some (.int .i64 0) := Kit.cell Z9 0 _ rfl
      have y0 := Kit.frz Z9 0
      have z1 : w9.cell? ⟨w.heap.size, 1, none⟩ = some (.int .i64 0) := Kit.cell Z9 1 _ rfl
      have y1 := Kit.frz Z9 1
      have z2 : w9.cell? ⟨w.heap.size, 2, none⟩ = some (.int .i64 0) := Kit.cell Z9 2 _ rfl
      have y2 := Kit.frz Z9 2
      have z3 : w9.cell? ⟨w.heap.size, 3, none⟩ = some (.int .i64 0) := Kit.cell Z9 3 _ rfl
      have y3 := Kit.frz Z9 3
      have z4 : w9.cell? ⟨w.heap.size, 4, none⟩ = some (.int .i64 0) := Kit.cell Z9 4 _ rfl
      have y4 := Kit.frz Z9 4
      have z5 : w9.cell? ⟨w.heap.size, 5, none⟩ = some (.int .i64 0) := Kit.cell Z9 5 _ rfl
      have y5 := Kit.frz Z9 5
      have z6 : w9.cell? ⟨w.heap.size, 6, none⟩ = some (.int .i64 0) := Kit.cell Z9 6 _ rfl
      have y6 := Kit.frz Z9 6
      have HZ9 := Lib.hid Z9; clear Z9
      go_wp2_with fail
      exact bodyPost_ret (Kit.res_ct rfl w.heap.size rfl (show ((((((((w9.setCell _ _).setCell _ _).setCell _ _).setCell _ _).setCell _ _).setCell _ _).setCell _ _)).heap[w.heap.size]? = _ from (Kit.set_ (Kit.set_ (Kit.set_ (Kit.set_ (Kit.set_ (Kit.set_ (Kit.set_ HZ9.out 0 _ rfl) 1 _ rfl) 2 _ rfl) 3 _ rfl) 4 _ rfl) 5 _ rfl) 6 _ rfl)) Try.underlying40 rfl (by kernel_rfl)) rfl ⟨by rw [readVal_no HRO.out]; rfl, (((((((B9.out.setCell (by simp) _).setCell (by simp) _).setCell (by simp) _).setCell (by simp) _).setCell (by simp) _).setCell (by simp) _).setCell (by simp) _)⟩
    · rw [Scr.code_yes hk] at hck
      rw [hk] at hro
      have HRO : Hid (readOk l = true) := hro
      have HC := Lib.hid hck; clear hck hk hro
      unfold Scr.val Scr.vals Scr.read at *
      go_wp2_with fail
      refine HC.out.mono ?_; rintro e w9 ⟨rfl, hb⟩
      have Z9 := Kit.kept hb HZ.out
      have V9 := Kit.kept hb HV.out
      have B9 := Lib.hid (Kit.then_ (w1 := w8) (HB8.out) hb); clear hb
      have z0 : w9.cell? ⟨w.heap.size, 0, none⟩ = some (.int .i64 0) := Kit.cell Z9 0 _ rfl
      have y0 := Kit.frz Z9 0
      have u0 : w9.cell? ⟨b2, 0, none⟩ = some (.int .i64 (xs l 0)) := Kit.cell V9 0 _ rfl
      have z1 : w9.cell? ⟨w.heap.size, 1, none⟩ = some (.int .i64 0) := Kit.cell Z9 1 _ rfl
      have y1 := Kit.frz Z9 1
      have u1 : w9.cell? ⟨b2, 1, none⟩ = some (.int .i64 (xs l 1)) := Kit.cell V9 1 _ rfl
      have z2 : w9.cell? ⟨w.heap.size, 2, none⟩ = some (.int .i64 0) := Kit.cell Z9 2 _ rfl
      have y2 := Kit.frz Z9 2
      have u2 : w9.cell? ⟨b2, 2, none⟩ = some (.int .i64 (xs l 2)) := Kit.cell V9 2 _ rfl
      have z3 : w9.cell? ⟨w.heap.size, 3, none⟩ = some (.int .i64 0) := Kit.cell Z9 3 _ rfl
      have y3 := Kit.frz Z9 3
      have u3 : w9.cell? ⟨b2, 3, none⟩ = some (.int .i64 (xs l 3)) := Kit.cell V9 3 _ rfl
      have z4 : w9.cell? ⟨w.heap.size, 4, none⟩ = some (.int .i64 0) := Kit.cell Z9 4 _ rfl
      have y4 := Kit.frz Z9 4
      have u4 : w9.cell? ⟨b2, 4, none⟩ = some (.int .i64 (xs l 4)) := Kit.cell V9 4 _ rfl
      have z5 : w9.cell? ⟨w.heap.size, 5, none⟩ = some (.int .i64 0) := Kit.cell Z9 5 _ rfl
      have y5 := Kit.frz Z9 5
      have u5 : w9.cell? ⟨b2, 5, none⟩ = some (.int .i64 (xs l 5)) := Kit.cell V9 5 _ rfl
      have z6 : w9.cell? ⟨w.heap.size, 6, none⟩ = some (.int .i64 0) := Kit.cell Z9 6 _ rfl
      have y6 := Kit.frz Z9 6
      have u6 : w9.cell? ⟨b2, 6, none⟩ = some (.int .i64 (xs l 6)) := Kit.cell V9 6 _ rfl
      have HZ9 := Lib.hid Z9; clear Z9 V9
      go_wp2_with fail
      exact bodyPost_ret (Kit.res_ct rfl w.heap.size rfl (show ((((((((w9.setCell _ _).setCell _ _).setCell _ _).setCell _ _).setCell _ _).setCell _ _).setCell _ _)).heap[w.heap.size]? = _ from (Kit.set_ (Kit.set_ (Kit.set_ (Kit.set_ (Kit.set_ (Kit.set_ (Kit.set_ HZ9.out 0 _ rfl) 1 _ rfl) 2 _ rfl) 3 _ rfl) 4 _ rfl) 5 _ rfl) 6 _ rfl)) Try.underlying40 rfl (by kernel_rfl)) rfl ⟨by rw [readVal_yes HRO.out]; rfl, (((((((B9.out.setCell (by simp) _).setCell (by simp) _).setCell (by simp) _).setCell (by simp) _).setCell (by simp) _).setCell (by simp) _).setCell (by simp) _)⟩
  · have heb : (E != 0) = true := by simpa using he
    have heb2 : (E == 0) = false := by simpa using he
    rw [heb2] at hro
    have HRO : Hid (readOk l = false) := hro
    clear hro heb2 he
    have z0 : w8.cell? ⟨w.heap.size, 0, none⟩ = some (.int .i64 0) := Kit.cell HZ.out 0 _ rfl
    have y0 := Kit.frz HZ.out 0
    have z1 : w8.cell? ⟨w.heap.size, 1, none⟩ = some (.int .i64 0) := Kit.cell HZ.out 1 _ rfl
    have y1 := Kit.frz HZ.out 1
    have z2 : w8.cell? ⟨w.heap.size, 2, none⟩ = some (.int .i64 0) := Kit.cell HZ.out 2 _ rfl
    have y2 := Kit.frz HZ.out 2
    have z3 : w8.cell? ⟨w.heap.size, 3, none⟩ = some (.int .i64 0) := Kit.cell HZ.out 3 _ rfl
    have y3 := Kit.frz HZ.out 3
    have z4 : w8.cell? ⟨w.heap.size, 4, none⟩ = some (.int .i64 0) := Kit.cell HZ.out 4 _ rfl
    have y4 := Kit.frz HZ.out 4
    have z5 : w8.cell? ⟨w.heap.size, 5, none⟩ = some (.int .i64 0) := Kit.cell HZ.out 5 _ rfl
    have y5 := Kit.frz HZ.out 5
    have z6 : w8.cell? ⟨w.heap.size, 6, none⟩ = some (.int .i64 0) := Kit.cell HZ.out 6 _ rfl
    have y6 := Kit.frz HZ.out 6
    go_wp2_with fail
    exact bodyPost_ret (Kit.res_ct rfl w.heap.size rfl (show ((((((((w8.setCell _ _).setCell _ _).setCell _ _).setCell _ _).setCell _ _).setCell _ _).setCell _ _)).heap[w.heap.size]? = _ from (Kit.set_ (Kit.set_ (Kit.set_ (Kit.set_ (Kit.set_ (Kit.set_ (Kit.set_ HZ.out 0 _ rfl) 1 _ rfl) 2 _ rfl) 3 _ rfl) 4 _ rfl) 5 _ rfl) 6 _ rfl)) Try.underlying40 rfl (by kernel_rfl)) rfl ⟨by rw [readVal_no HRO.out]; rfl, (((((((HB8.out.setCell (by simp) _).setCell (by simp) _).setCell (by simp) _).setCell (by simp) _).setCell (by simp) _).setCell (by simp) _).setCell (by simp) _)⟩
end Go.Proofs.YthbbbmomlehimaaR.Ts
