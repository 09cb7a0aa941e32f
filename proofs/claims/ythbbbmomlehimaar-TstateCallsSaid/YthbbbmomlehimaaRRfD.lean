import Derived.Test.YthbbbmomlehimaaRRfC
import Derived.Test.YthbbbmomlehimaaRTsG
set_option linter.unusedVariables false
namespace Go.Proofs.YthbbbmomlehimaaR.Ts
open Go.RowKit Oc

/-- The document's reader behind k numbers, and what the k-th tells. -/
def sr (l : List Int) : Nat → List Int × Int
  | 0 => (l, 0)
  | k + 1 => (rf (sr l k).1 (sr l k).2).2
def yr (l : List Int) (k : Nat) : Int := if 1000 < (rf (sr l k).1 (sr l k).2).1 then 1000 else (rf (sr l k).1 (sr l k).2).1
def yv (l : List Int) (j : Nat) (k : Nat) : Int := if k < j then yr l k else 0
def yc (l : List Int) (j : Nat) : Array Value := #[.int .i64 (yv l j 0), .int .i64 (yv l j 1), .int .i64 (yv l j 2), .int .i64 (yv l j 3), .int .i64 (yv l j 4), .int .i64 (yv l j 5), .int .i64 (yv l j 6)]
theorem yc_set (l : List Int) (j : Nat) (hj : j < 7) : (yc l j).setIfInBounds j (.int .i64 (yr l j)) = yc l (j + 1) := by
  match j, hj with
  | 0, _ => simp [yc, yv]
  | 1, _ => simp [yc, yv]
  | 2, _ => simp [yc, yv]
  | 3, _ => simp [yc, yv]
  | 4, _ => simp [yc, yv]
  | 5, _ => simp [yc, yv]
  | 6, _ => simp [yc, yv]
theorem yc_get (l : List Int) (j : Nat) (hj : j < 7) : (yc l j)[j]? = some (.int .i64 0) := by
  match j, hj with
  | 0, _ => simp [yc, yv]
  | 1, _ => simp [yc, yv]
  | 2, _ => simp [yc, yv]
  | 3, _ => simp [yc, yv]
  | 4, _ => simp [yc, yv]
  | 5, _ => simp [yc, yv]
  | 6, _ => simp [yc, yv]
theorem bytes_arr {w : World} {A : Option Addr} {n b : Nat} {l l0 : List Int} {j0 : Nat} {ty : TypeId} (h : BytesAt w A n l) (hb : w.heap[b]? = some (.cells (yc l0 j0) ty (0, 0))) (j : Nat) (u : Value) : BytesAt (w.setCell ⟨b, j, none⟩ u) A n l := by
  refine ⟨h.1, fun hn => ?_⟩
  obtain ⟨b', off, e, hlt, hc⟩ := h.2 hn
  have hne : b' ≠ b := by
    rintro rfl
    have h0 := hc 0 hn
    rw [cell_of_row w b' (off + 0) _ _ _ hb] at h0
    unfold yc at h0
    match off, h0 with
    | 0, h0 => simp at h0
    | 1, h0 => simp at h0
    | 2, h0 => simp at h0
    | 3, h0 => simp at h0
    | 4, h0 => simp at h0
    | 5, h0 => simp at h0
    | 6, h0 => simp at h0
    | k + 7, h0 => simp at h0
  refine ⟨b', off, e, by simpa [World.setCell] using hlt, fun i hi => ?_⟩
  rw [World.cell?_setCell_other]
  · exact hc i hi
  · intro e2; injection e2 with e3; exact hne e3.symm
/-- What stands in memory ahead of the j-th number. -/
structure Mir (w W : World) (l : List Int) (g b0 b2 : Nat) (j : Nat) : Prop where
  z : W.heap[b0]? = some (.cells #[.int .i64 0, .int .i64 0, .int .i64 0, .int .i64 0, .int .i64 0, .int .i64 0, .int .i64 0] 40 (0, 0))
  v : W.heap[b2]? = some (.cells (yc l j) 144 (0, 0))
  r : RfAt W g (sr l j).1 (sr l j).2
  h : Below b0 w W
  n0 : b0 < b2
  n1 : g < b2
  n2 : b0 < g
theorem Mir.next {w W W' : World} {l : List Int} {g b0 b2 j : Nat} (m : Mir w W l g b0 b2 j) (hj : j < 7) (hb : Kit.But g W W') (hr : RfAt W' g (rf (sr l j).1 (sr l j).2).2.1 (rf (sr l j).1 (sr l j).2).2.2) : Mir w (W'.setCell ⟨b2, j, none⟩ (.int .i64 (yr l j))) l g b0 b2 (j + 1) := by
  have hz := hb.blk m.z (by have := m.n2; omega)
  have hv := hb.blk m.v (by have := m.n1; omega)
  have n0 := m.n0; have n1 := m.n1; have n2 := m.n2
  refine ⟨Kit.set_far hz _ (by simp only; omega) _, Kit.set_ hv j _ (yc_set l j hj), ?_, (Kit.But.below m.h hb (by omega) (by have := Kit.lt m.z; omega)).setCell (by simp only; omega) _, n0, n1, n2⟩
  obtain ⟨A, n, c, h1, h2, h3⟩ := hr
  exact ⟨A, n, c, Kit.set_far h1 _ (by simp only; omega) _, bytes_arr h2 hv j _, h3⟩

def Scr.rread (l : List Int) : Scr := ⟨yr l 0, yr l 1, yr l 2, yr l 3, yr l 4, yr l 5, yr l 6⟩
def rreadOk (l : List Int) : Bool := en (sr l 7).1 (sr l 7).2 == 0 && (Scr.rread l).ok
def rreadVal (l : List Int) : Array Value := if rreadOk l then #[(Scr.rread l).val, .int .i64 0] else #[.agg #[.int .i64 0, .int .i64 0, .int .i64 0, .int .i64 0, .int .i64 0, .int .i64 0, .int .i64 0], .int .i64 4]
theorem rreadVal_yes {l : List Int} (h : rreadOk l = true) : rreadVal l = #[(Scr.rread l).val, .int .i64 0] := by rw [rreadVal, if_pos h]
theorem rreadVal_no {l : List Int} (h : rreadOk l = false) : rreadVal l = #[.agg #[.int .i64 0, .int .i64 0, .int .i64 0, .int .i64 0, .int .i64 0, .int .i64 0, .int .i64 0], .int .i64 4] := by rw [rreadVal, if_neg (by rw [h]; decide)]

set_option maxRecDepth 100000 in
set_option maxHeartbeats 2000000 in
theorem rread_calls (hck : ∀ (s : Scr) (w : World), Calls Try.prog 24 #[s.val] w fun e w' => e = .returned (.int .i64 s.code) ∧ Below w.heap.size w w') (A : Option Addr) (n c : Nat) (l : List Int) (w : World) (hb : BytesAt w A n l) (hn : n ≤ 140737488351232) (hc : NilFit A c) (hl : ∀ b ∈ l, 0 ≤ b ∧ b < 256) :
    Calls Try.prog 50 #[.slice A n c] w fun e w' => e = .returned (.tuple (rreadVal l)) ∧ Below w.heap.size w w' := by
  have HCK := Lib.hid hck; clear hck
  have HB := Lib.hid hb; have HL := Lib.hid hl; clear hb hl
  go_enter Try.func50, Try.ntmps50
  go_wp2_with fail
  refine (rnew_calls A n c l _ (HB.out.below (Kit.below1 _ _)) hn hc HL.out).mono ?_; rintro e w0 ⟨g, rfl, hg, hrd, hb⟩
  have B0 := Kit.kept hb (Kit.blk1 _ _)
  have hB := Kit.then_ (Kit.below1 _ _) hb
  have hz := hb.size; simp at hz hg
  have hgl := RfAt.lt hrd
  have hM : Mir w (w0.alloc (.cells #[.int .i64 0, .int .i64 0, .int .i64 0, .int .i64 0, .int .i64 0, .int .i64 0, .int .i64 0] 144 (0, 0))) l g w.heap.size w0.heap.size 0 := ⟨Kit.kept (Kit.below1 _ _) B0, Kit.blk1 _ _, hrd.below (Kit.below1 _ _), hB.alloc (by omega) _, by omega, by omega, by omega⟩
  clear hb B0 hB hrd
  go_wp2_with fail
  generalize (w0.alloc (.cells #[.int .i64 0, .int .i64 0, .int .i64 0, .int .i64 0, .int .i64 0, .int .i64 0, .int .i64 0] 144 (0, 0))) = W0 at *
  generalize w0.heap.size = b2 at *
  have HM0 := Lib.hid hM; clear hM hz hg hgl
  go_loopw [6] (fun i wr => ∃ j : Nat, j ≤ 7 ∧ i = .int .i64 j ∧ Mir w wr l g w.heap.size b2 j) (fun i _ => 7 - (intOf i).toNat)
  case atStart => exact ⟨0, by omega, rfl, HM0.out⟩
  case round =>
    obtain ⟨j, hj, rfl, hm⟩ := hrel
    have HM := Lib.hid hm; clear hm
    by_cases hlt : j < 7
    · have dj : decide ((j : Int) < 7) = true := decide_eq_true (by omega)
      go_wp2_with fail
      refine (rnum_calls wr g _ _ HM.out.r).mono ?_; rintro e w1 ⟨rfl, hr, hb⟩
      have hv := hb.blk HM.out.v (by have := HM.out.n1; omega)
      have v0 : w1.cell? ⟨b2, j, none⟩ = some (.int .i64 0) := Kit.cell hv j _ (yc_get l j hlt)
      have f0 := Kit.frz hv j
      have hnn : 0 ≤ (rf (sr l j).1 (sr l j).2).1 := by
        unfold rf; split
        · exact Int.le_refl _
        · exact rd_nonneg _ HM.out.r.bytes
      have HN := Lib.hid (HM.out.next hlt hb hr); clear hr hb hv
      have hy : yr l j = if 1000 < (rf (sr l j).1 (sr l j).2).1 then 1000 else (rf (sr l j).1 (sr l j).2).1 := rfl
      generalize (rf (sr l j).1 (sr l j).2).1 = X at *
      have HJ := Lib.hid hlt
      have dj1 : decide (0 ≤ (j : Int)) = true := decide_eq_true (by omega)
      by_cases hX : 1000 < X
      · rw [if_pos hX] at hy
        rw [hy] at HN
        have HNN := Lib.hid HN.out; clear HN hy
        go_wp2_with fail
        exact ⟨⟨j + 1, by omega, by go_num, HNN.out⟩, by simp [intOf]; omega⟩
      · rw [if_neg hX] at hy
        rw [hy] at HN
        have HNN := Lib.hid HN.out; clear HN hy
        go_wp2_with fail
        exact ⟨⟨j + 1, by omega, by go_num, HNN.out⟩, by simp [intOf]; omega⟩
    · obtain rfl : j = 7 := by omega
      have dj : decide (((7 : Nat) : Int) < 7) = false := rfl
      have hv := HM.out.v
      have hyc : yc l 7 = #[.int .i64 (yr l 0), .int .i64 (yr l 1), .int .i64 (yr l 2), .int .i64 (yr l 3), .int .i64 (yr l 4), .int .i64 (yr l 5), .int .i64 (yr l 6)] := by simp [yc, yv]
      rw [hyc] at hv; clear hyc
      have x0 : wr.cell? ⟨b2, 0, none⟩ = some (.int .i64 (yr l 0)) := Kit.cell hv 0 _ rfl
      have x1 : wr.cell? ⟨b2, 1, none⟩ = some (.int .i64 (yr l 1)) := Kit.cell hv 1 _ rfl
      have x2 : wr.cell? ⟨b2, 2, none⟩ = some (.int .i64 (yr l 2)) := Kit.cell hv 2 _ rfl
      have x3 : wr.cell? ⟨b2, 3, none⟩ = some (.int .i64 (yr l 3)) := Kit.cell hv 3 _ rfl
      have x4 : wr.cell? ⟨b2, 4, none⟩ = some (.int .i64 (yr l 4)) := Kit.cell hv 4 _ rfl
      have x5 : wr.cell? ⟨b2, 5, none⟩ = some (.int .i64 (yr l 5)) := Kit.cell hv 5 _ rfl
      have x6 : wr.cell? ⟨b2, 6, none⟩ = some (.int .i64 (yr l 6)) := Kit.cell hv 6 _ rfl
      clear hv
      go_wp2_with fail
      generalize hW : World.alloc wr (.cells #[.int .i64 (yr l 0), .int .i64 (yr l 1), .int .i64 (yr l 2), .int .i64 (yr l 3), .int .i64 (yr l 4), .int .i64 (yr l 5), .int .i64 (yr l 6)] 40 (0, 0)) = W1
      have B1 : Hid (W1.heap[wr.heap.size]? = some (.cells #[.int .i64 (yr l 0), .int .i64 (yr l 1), .int .i64 (yr l 2), .int .i64 (yr l 3), .int .i64 (yr l 4), .int .i64 (yr l 5), .int .i64 (yr l 6)] 40 (0, 0))) := by rw [← hW]; exact Kit.blk1 _ _
      have R1 : Hid (RfAt W1 g (sr l 7).1 (sr l 7).2) := by rw [← hW]; exact HM.out.r.below (Kit.below1 _ _)
      have Z1 : Hid (W1.heap[w.heap.size]? = some (.cells #[.int .i64 0, .int .i64 0, .int .i64 0, .int .i64 0, .int .i64 0, .int .i64 0, .int .i64 0] 40 (0, 0))) := by rw [← hW]; exact Kit.blk_old HM.out.z _
      have hbz := HM.out.h.size
      have hg1 := HM.out.n2
      have hg2 : g < wr.heap.size := RfAt.lt HM.out.r
      have L1 : Hid (Below w.heap.size w W1) := by rw [← hW]; exact HM.out.h.alloc (by omega) _
      clear hW x0 x1 x2 x3 x4 x5 x6 HM
      generalize wr.heap.size = S at *
      refine (rend_calls W1 g _ _ R1.out).mono ?_; rintro e w8 ⟨rfl, hr, hb⟩
      have hz := Kit.But.blk hb Z1.out (by omega)
      have hv := Kit.But.blk hb B1.out (by omega)
      have hB : Below w.heap.size w w8 := Kit.But.below L1.out hb (by omega) (by have := Kit.lt Z1.out; omega)
      clear hr hb
      have hsz := hB.size
      have v0 : w8.cell? ⟨S, 0, none⟩ = some (.int .i64 (yr l 0)) := Kit.cell hv 0 _ rfl
      have v1 : w8.cell? ⟨S, 1, none⟩ = some (.int .i64 (yr l 1)) := Kit.cell hv 1 _ rfl
      have v2 : w8.cell? ⟨S, 2, none⟩ = some (.int .i64 (yr l 2)) := Kit.cell hv 2 _ rfl
      have v3 : w8.cell? ⟨S, 3, none⟩ = some (.int .i64 (yr l 3)) := Kit.cell hv 3 _ rfl
      have v4 : w8.cell? ⟨S, 4, none⟩ = some (.int .i64 (yr l 4)) := Kit.cell hv 4 _ rfl
      have v5 : w8.cell? ⟨S, 5, none⟩ = some (.int .i64 (yr l 5)) := Kit.cell hv 5 _ rfl
      have v6 : w8.cell? ⟨S, 6, none⟩ = some (.int .i64 (yr l 6)) := Kit.cell hv 6 _ rfl
      have HV := Lib.hid hv; have HZ := Lib.hid hz; have HB8 := Lib.hid hB; clear hv hz hB
      have hro : rreadOk l = (en (sr l 7).1 (sr l 7).2 == 0 && (Scr.rread l).ok) := rfl
      generalize en (sr l 7).1 (sr l 7).2 = E at *
      by_cases he : E = 0
      · subst he
        have hck := HCK.out (Scr.rread l) w8
        cases hk : (Scr.rread l).ok
        · rw [Scr.code_no hk] at hck
          rw [hk] at hro
          have HRO : Hid (rreadOk l = false) := hro
          have HC := Lib.hid hck; clear hck hk hro
          unfold Scr.val Scr.vals Scr.rread at *
          go_wp2_with fail
          refine HC.out.mono ?_; rintro e w9 ⟨rfl, hb⟩
          have Z9 := Kit.kept hb HZ.out
          have B9 := Lib.hid (Kit.then_ (w1 := w8) (HB8.out) hb); clear hb
          have z0 : w9.cell? ⟨w.heap.size, 0, none⟩ = some (.int .i64 0) := Kit.cell Z9 0 _ rfl
          have y0 := Kit.frz Z9 0
          have z1 : w9.cell? ⟨w.heap.size, 1, none⟩ = some (.int .i64 0) := Kit.cell Z9 1 _ rfl
          have y1 := Kit.frz Z9 1
          have z2 : w9.cell? ⟨w.heap.size, 2, none⟩ = some (.int .i64 0) := Kit.cell Z9 2 _ rfl
          have y2 := Kit.frz Z9 2
          have z3 : w9.cell? ⟨w.heap.size, 3, none⟩ = some (.int .i64 0) := Kit.cell Z9 3 _ rfl
          have y3 := Kit.frz Z9 3
          have z4 : w9.cell? ⟨w.heap.size, 4, none⟩ = some (.int .i64 0) := Kit.cell Z9 4 _ rfl
          have y4 := Kit.frz Z9 4
          have z5 : w9.cell? ⟨w.heap.size, 5, none⟩ = some (.int .i64 0) := Kit.cell Z9 5 _ rfl
          have y5 := Kit.frz Z9 5
          have z6 : w9.cell? ⟨w.heap.size, 6, none⟩ = some (.int .i64 0) := Kit.cell Z9 6 _ rfl
          have y6 := Kit.frz Z9 6
          have HZ9 := Lib.hid Z9; clear Z9
          go_wp2_with fail
          exact bodyPost_ret (Kit.res_ct rfl w.heap.size rfl (show ((((((((w9.setCell _ _).setCell _ _).setCell _ _).setCell _ _).setCell _ _).setCell _ _).setCell _ _)).heap[w.heap.size]? = _ from (Kit.set_ (Kit.set_ (Kit.set_ (Kit.set_ (Kit.set_ (Kit.set_ (Kit.set_ HZ9.out 0 _ rfl) 1 _ rfl) 2 _ rfl) 3 _ rfl) 4 _ rfl) 5 _ rfl) 6 _ rfl)) Try.underlying40 rfl (by kernel_rfl)) rfl ⟨by rw [rreadVal_no HRO.out]; rfl, (((((((B9.out.setCell (by simp) _).setCell (by simp) _).setCell (by simp) _).setCell (by simp) _).setCell (by simp) _).setCell (by simp) _).setCell (by simp) _)⟩
        · rw [Scr.code_yes hk] at hck
          rw [hk] at hro
          have HRO : Hid (rreadOk l = true) := hro
          have HC := Lib.hid hck; clear hck hk hro
          unfold Scr.val Scr.vals Scr.rread at *
          go_wp2_with fail
          refine HC.out.mono ?_; rintro e w9 ⟨rfl, hb⟩
          have Z9 := Kit.kept hb HZ.out
          have V9 := Kit.kept hb HV.out
          have B9 := Lib.hid (Kit.then_ (w1 := w8) (HB8.out) hb); clear hb
          have z0 : w9.cell? ⟨w.heap.size, 0, none⟩ = some (.int .i64 0) := Kit.cell Z9 0 _ rfl
          have y0 := Kit.frz Z9 0
          have u0 : w9.cell? ⟨S, 0, none⟩ = some (.int .i64 (yr l 0)) := Kit.cell V9 0 _ rfl
          have z1 : w9.cell? ⟨w.heap.size, 1, none⟩ = some (.int .i64 0) := Kit.cell Z9 1 _ rfl
          have y1 := Kit.frz Z9 1
          have u1 : w9.cell? ⟨S, 1, none⟩ = some (.int .i64 (yr l 1)) := Kit.cell V9 1 _ rfl
          have z2 : w9.cell? ⟨w.heap.size, 2, none⟩ = some (.int .i64 0) := Kit.cell Z9 2 _ rfl
          have y2 := Kit.frz Z9 2
          have u2 : w9.cell? ⟨S, 2, none⟩ = some (.int .i64 (yr l 2)) := Kit.cell V9 2 _ rfl
          have z3 : w9.cell? ⟨w.heap.size, 3, none⟩ = some (.int .i64 0) := Kit.cell Z9 3 _ rfl
          have y3 := Kit.frz Z9 3
          have u3 : w9.cell? ⟨S, 3, none⟩ = some (.int .i64 (yr l 3)) := Kit.cell V9 3 _ rfl
          have z4 : w9.cell? ⟨w.heap.size, 4, none⟩ = some (.int .i64 0) := Kit.cell Z9 4 _ rfl
          have y4 := Kit.frz Z9 4
          have u4 : w9.cell? ⟨S, 4, none⟩ = some (.int .i64 (yr l 4)) := Kit.cell V9 4 _ rfl
          have z5 : w9.cell? ⟨w.heap.size, 5, none⟩ = some (.int .i64 0) := Kit.cell Z9 5 _ rfl
          have y5 := Kit.frz Z9 5
          have u5 : w9.cell? ⟨S, 5, none⟩ = some (.int .i64 (yr l 5)) := Kit.cell V9 5 _ rfl
          have z6 : w9.cell? ⟨w.heap.size, 6, none⟩ = some (.int .i64 0) := Kit.cell Z9 6 _ rfl
          have y6 := Kit.frz Z9 6
          have u6 : w9.cell? ⟨S, 6, none⟩ = some (.int .i64 (yr l 6)) := Kit.cell V9 6 _ rfl
          have HZ9 := Lib.hid Z9; clear Z9 V9
          go_wp2_with fail
          exact bodyPost_ret (Kit.res_ct rfl w.heap.size rfl (show ((((((((w9.setCell _ _).setCell _ _).setCell _ _).setCell _ _).setCell _ _).setCell _ _).setCell _ _)).heap[w.heap.size]? = _ from (Kit.set_ (Kit.set_ (Kit.set_ (Kit.set_ (Kit.set_ (Kit.set_ (Kit.set_ HZ9.out 0 _ rfl) 1 _ rfl) 2 _ rfl) 3 _ rfl) 4 _ rfl) 5 _ rfl) 6 _ rfl)) Try.underlying40 rfl (by kernel_rfl)) rfl ⟨by rw [rreadVal_yes HRO.out]; rfl, (((((((B9.out.setCell (by simp) _).setCell (by simp) _).setCell (by simp) _).setCell (by simp) _).setCell (by simp) _).setCell (by simp) _).setCell (by simp) _)⟩
      · have heb : (E != 0) = true := by simpa using he
        have heb2 : (E == 0) = false := by simpa using he
        rw [heb2] at hro
        have HRO : Hid (rreadOk l = false) := hro
        clear hro heb2 he
        have z0 : w8.cell? ⟨w.heap.size, 0, none⟩ = some (.int .i64 0) := Kit.cell HZ.out 0 _ rfl
        have y0 := Kit.frz HZ.out 0
        have z1 : w8.cell? ⟨w.heap.size, 1, none⟩ = some (.int .i64 0) := Kit.cell HZ.out 1 _ rfl
        have y1 := Kit.frz HZ.out 1
        have z2 : w8.cell? ⟨w.heap.size, 2, none⟩ = some (.int .i64 0) := Kit.cell HZ.out 2 _ rfl
        have y2 := Kit.frz HZ.out 2
        have z3 : w8.cell? ⟨w.heap.size, 3, none⟩ = some (.int .i64 0) := Kit.cell HZ.out 3 _ rfl
        have y3 := Kit.frz HZ.out 3
        have z4 : w8.cell? ⟨w.heap.size, 4, none⟩ = some (.int .i64 0) := Kit.cell HZ.out 4 _ rfl
        have y4 := Kit.frz HZ.out 4
        have z5 : w8.cell? ⟨w.heap.size, 5, none⟩ = some (.int .i64 0) := Kit.cell HZ.out 5 _ rfl
        have y5 := Kit.frz HZ.out 5
        have z6 : w8.cell? ⟨w.heap.size, 6, none⟩ = some (.int .i64 0) := Kit.cell HZ.out 6 _ rfl
        have y6 := Kit.frz HZ.out 6
        go_wp2_with fail
        exact bodyPost_ret (Kit.res_ct rfl w.heap.size rfl (show ((((((((w8.setCell _ _).setCell _ _).setCell _ _).setCell _ _).setCell _ _).setCell _ _).setCell _ _)).heap[w.heap.size]? = _ from (Kit.set_ (Kit.set_ (Kit.set_ (Kit.set_ (Kit.set_ (Kit.set_ (Kit.set_ HZ.out 0 _ rfl) 1 _ rfl) 2 _ rfl) 3 _ rfl) 4 _ rfl) 5 _ rfl) 6 _ rfl)) Try.underlying40 rfl (by kernel_rfl)) rfl ⟨by rw [rreadVal_no HRO.out]; rfl, (((((((HB8.out.setCell (by simp) _).setCell (by simp) _).setCell (by simp) _).setCell (by simp) _).setCell (by simp) _).setCell (by simp) _).setCell (by simp) _)⟩
end Go.Proofs.YthbbbmomlehimaaR.Ts
