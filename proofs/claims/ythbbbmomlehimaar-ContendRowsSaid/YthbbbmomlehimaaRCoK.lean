import Derived.Test.YthbbbmomlehimaaRCoH
import Derived.Test.YthbbbmomlehimaaRCoJ
set_option linter.unusedVariables false
namespace Go.Proofs.YthbbbmomlehimaaR.Ts
open Go.RowKit

theorem Scr.run_at (s : Scr) (qs : List Rq) (bs : List Bool) (t : Int) : ∀ n k, k < n → (s.run (pairs qs bs n) t).1[k]? = some (s.req (qs.getD k default) (bs.getD k false) (s.run (pairs qs bs k) t).2).1 := by
  intro n
  induction n with
  | zero => intro k hk; omega
  | succ n ih =>
    intro k hk
    rw [pairs_succ, s.run_snoc]
    have hl : (s.run (pairs qs bs n) t).1.length = n := by rw [s.run_length, pairs_length]
    by_cases e : k = n
    · subst e
      simp [hl]
    · rw [List.getElem?_append_left (by omega)]
      exact ih k (by omega)
theorem own_open {w : World} {base n : Nat} {e : TypeId} {v : Value} {xs : List Value} (h : w.ownsRow base e 1 v n xs) :
    ∃ A c, v = .slice A n c ∧ n ≤ c ∧ (0 < n → ∃ g, A = some ⟨g, 0, none⟩ ∧ base ≤ g ∧ g < w.heap.size ∧ ∀ i x, xs[i]? = some x → w.cell? ⟨g, i, none⟩ = some x) := by
  rcases h.2 with ⟨rfl, rfl⟩ | ⟨g, cap, cur, rfl, hb, hg, hn, hm, hs, ht⟩
  · exact ⟨_, _, rfl, Nat.le_refl _, fun h => by omega⟩
  · refine ⟨_, _, rfl, hn, fun _ => ⟨g, rfl, hb, Kit.lt hg, fun i x hx => ?_⟩⟩
    rw [cell_of_row w g i cur e (0, 0) hg]
    rw [← ht, List.getElem?_take] at hx
    split at hx
    · simpa using hx
    · cases hx

set_option maxHeartbeats 8000000 in
set_option maxRecDepth 100000 in
theorem law16_calls (s : Scr) (qs : List Rq) (bs : List Bool) (A B : Option Addr) (n c m c2 : Nat) (t u : Int) (w : World) (hq : ReqsAt w A n qs) (hs : BoolsAt w B m bs)
    (ha : ∀ i, i < n → 0 ≤ (qs.getD i default).addr ∧ (qs.getD i default).addr < 65536) (hn : n ≤ 140737488351232) (hm : m ≤ 140737488351232)
    (ht1 : -9223372036854775808 ≤ t) (ht2 : t ≤ 9223372036854775807) (hu1 : -9223372036854775808 ≤ u) (hu2 : u ≤ 9223372036854775807) :
    Calls Try.prog 4 #[s.val, .slice A n c, .slice B m c2, .int .i64 t, .int .i64 u] w fun e w' => e = .returned (.bool true) ∧ Below w.heap.size w w' := by
  have HQ := Lib.hid hq; have HS := Lib.hid hs; have HA := Lib.hid ha; clear hq hs ha
  unfold Scr.val
  go_enter Try.func4, Try.ntmps4
  go_wp2_with fail
  refine (lives16_calls _).mono ?_; rintro e w1 ⟨rfl, hb⟩
  have A0 := Kit.kept hb (Kit.blk1 _ _)
  have hB := Kit.then_ (Kit.below1 _ _) hb
  have hz := Kit.lt A0
  clear hb
  have x0 : w1.cell? ⟨w.heap.size, 0, none⟩ = some (.int .i64 s.lines) := Kit.cell A0 0 _ rfl
  have x1 : w1.cell? ⟨w.heap.size, 1, none⟩ = some (.int .i64 s.columns) := Kit.cell A0 1 _ rfl
  have x2 : w1.cell? ⟨w.heap.size, 2, none⟩ = some (.int .i64 s.top) := Kit.cell A0 2 _ rfl
  have x3 : w1.cell? ⟨w.heap.size, 3, none⟩ = some (.int .i64 s.rows) := Kit.cell A0 3 _ rfl
  have x4 : w1.cell? ⟨w.heap.size, 4, none⟩ = some (.int .i64 s.left) := Kit.cell A0 4 _ rfl
  have x5 : w1.cell? ⟨w.heap.size, 5, none⟩ = some (.int .i64 s.wide) := Kit.cell A0 5 _ rfl
  have x6 : w1.cell? ⟨w.heap.size, 6, none⟩ = some (.int .i64 s.pulse) := Kit.cell A0 6 _ rfl
  have HX := Lib.hid A0; have HB := Lib.hid hB; clear A0 hB
  by_cases g1 : 40 < n
  · have d1 : decide (40 < (n : Int)) = true := decide_eq_true (by omega)
    go_wp2_with fail
    go_ret
    exact ⟨rfl, HB.out⟩
  have d1 : decide (40 < (n : Int)) = false := decide_eq_false (by omega)
  by_cases g2 : 40 < m
  · have d2 : decide (40 < (m : Int)) = true := decide_eq_true (by omega)
    go_wp2_with fail
    go_ret
    exact ⟨rfl, HB.out⟩
  have d2 : decide (40 < (m : Int)) = false := decide_eq_false (by omega)
  have hc := ref02_calls s
  cases ho : s.ok
  · rw [Scr.code_no ho] at hc
    have HC := Lib.hid hc; clear hc ho
    unfold Scr.val Scr.vals at *
    go_wp2_with fail
    refine (HC.out _).mono ?_; rintro e w2 ⟨rfl, hb⟩
    have hB2 := HB.out.trans (hb.mono HB.out.size)
    clear hb
    go_wp2_with fail
    go_ret
    exact ⟨rfl, hB2⟩
  rw [Scr.code_yes ho] at hc
  have HC := Lib.hid hc; have HO := Lib.hid ho; clear hc ho
  unfold Scr.val Scr.vals at HC
  unfold Scr.vals
  go_wp2_with fail
  refine (HC.out _).mono ?_; rintro e w2 ⟨rfl, hb⟩
  have hB2 := HB.out.trans (hb.mono HB.out.size)
  have hX2 := Kit.kept hb HX.out
  have hz2 := Kit.lt hX2
  clear hb HX HB hz x0 x1 x2 x3 x4 x5 x6
  have HX := Lib.hid hX2; have HB := Lib.hid hB2; clear hX2 hB2
  by_cases g3 : t < 0
  · have d3 : decide (t < 0) = true := decide_eq_true g3
    go_wp2_with fail
    go_ret
    exact ⟨rfl, HB.out⟩
  have d3 : decide (t < 0) = false := decide_eq_false g3
  by_cases g4 : u < t
  · have d4 : decide (u < t) = true := decide_eq_true g4
    go_wp2_with fail
    go_ret
    exact ⟨rfl, HB.out⟩
  have d4 : decide (u < t) = false := decide_eq_false g4
  by_cases g5 : 549755813888 < u
  · have d5 : decide (549755813888 < u) = true := decide_eq_true g5
    go_wp2_with fail
    go_ret
    exact ⟨rfl, HB.out⟩
  have d5 : decide (549755813888 < u) = false := decide_eq_false g5
  go_wp2_with fail
  go_loopw [11] (fun i wr => ∃ k : Nat, k ≤ n ∧ i = .int .i64 k ∧ Hid (∀ j, j < k → (qs.getD j default).okB = true) ∧ Hid (Below w.heap.size w wr) ∧ Hid (wr.heap[w.heap.size]? = some (.cells s.vals 40 (0, 0)))) (fun i _ => n - (intOf i).toNat)
  case atStart => exact ⟨0, Nat.zero_le _, rfl, fun j hj => by omega, HB.out, HX.out⟩
  case round =>
    obtain ⟨k, hk, rfl, HK, HB, HX⟩ := hrel
    have hz := Kit.lt HX.out
    by_cases hlt : k < n
    · obtain ⟨b, off, rfl, hblt, hc⟩ := HQ.out.2 (by omega)
      obtain ⟨c0, c1, c2_, c3⟩ := hc k hlt
      have c0 := (HB.out.cell (p := ⟨b, _, none⟩) hblt).trans c0
      have c1 := (HB.out.cell (p := ⟨b, _, none⟩) hblt).trans c1
      have c2_ := (HB.out.cell (p := ⟨b, _, none⟩) hblt).trans c2_
      have c3 := (HB.out.cell (p := ⟨b, _, none⟩) hblt).trans c3
      have hr := ref11_calls (qs.getD k default)
      unfold Rq.val Rq.vals at hr
      clear hc
      cases hok : (qs.getD k default).okB
      · have hcode : (qs.getD k default).code = 2 := by simp only [Rq.code, hok]; rfl
        rw [hcode] at hr
        clear hcode hok
        generalize qs.getD k default = q at *
        have HR := Lib.hid hr; clear hr
        go_wp2_with fail
        refine (HR.out _).mono ?_; rintro e w3 ⟨rfl, hb⟩
        have hB3 := HB.out.trans (hb.mono HB.out.size)
        clear hb
        go_wp2_with fail
        go_ret
        exact ⟨rfl, hB3⟩
      · have hcode : (qs.getD k default).code = 0 := by simp only [Rq.code, hok]; rfl
        rw [hcode] at hr
        have HOK := Lib.hid hok
        clear hcode hok
        generalize hqk : qs.getD k default = q at *
        have HQK := Lib.hid hqk; clear hqk
        have HR := Lib.hid hr; clear hr
        go_wp2_with fail
        refine (HR.out _).mono ?_; rintro e w3 ⟨rfl, hb⟩
        have hB3 := HB.out.trans (hb.mono HB.out.size)
        have hX3 := Kit.kept hb HX.out
        clear hb
        have HB3 := Lib.hid hB3; have HX3 := Lib.hid hX3; clear hB3 hX3
        go_wp2_with fail
        go_roundw
        case rel =>
          refine ⟨k + 1, by omega, by go_num, fun j hj => ?_, HB3.out, HX3.out⟩
          by_cases e : j = k
          · subst e; rw [HQK.out]; exact HOK.out
          · exact HK.out j (by omega)
        case measure => simp [intOf]; omega
    · obtain rfl : k = n := by omega
      have hall : AllOk qs := fun i hi => by
        rw [HQ.out.1] at hi
        exact ⟨HK.out i hi, HA.out i hi⟩
      have HALL := Lib.hid hall; clear hall HK
      have r1 := fun W hq hs => row_calls s qs bs A B k c m c2 t W HO.out hq hs HALL.out (by omega) (by omega) (by omega) (by omega)
      have r2 := fun W hq hs => row_calls s qs bs A B k c m c2 u W HO.out hq hs HALL.out (by omega) (by omega) (by omega) (by omega)
      have hn1 := (s.fits HO.out).n1
      have hn2 := (s.fits HO.out).n2
      have r3 := fun W hq hs => row_calls s qs bs A B k c m c2 (t + s.lines * s.columns) W HO.out hq hs HALL.out (by omega) (by omega) (by omega) (by omega)
      have hlen := ref02_length s
      rw [Scr.len_yes HO.out] at hlen
      unfold Scr.val Scr.vals at r1 r2 r3 hlen
      have R1 := Lib.hid r1; have R2 := Lib.hid r2; have R3 := Lib.hid r3; have HL := Lib.hid hlen; clear r1 r2 r3 hlen
      have x0 : wr.cell? ⟨w.heap.size, 0, none⟩ = some (.int .i64 s.lines) := Kit.cell HX.out 0 _ rfl
      have x1 : wr.cell? ⟨w.heap.size, 1, none⟩ = some (.int .i64 s.columns) := Kit.cell HX.out 1 _ rfl
      have x2 : wr.cell? ⟨w.heap.size, 2, none⟩ = some (.int .i64 s.top) := Kit.cell HX.out 2 _ rfl
      have x3 : wr.cell? ⟨w.heap.size, 3, none⟩ = some (.int .i64 s.rows) := Kit.cell HX.out 3 _ rfl
      have x4 : wr.cell? ⟨w.heap.size, 4, none⟩ = some (.int .i64 s.left) := Kit.cell HX.out 4 _ rfl
      have x5 : wr.cell? ⟨w.heap.size, 5, none⟩ = some (.int .i64 s.wide) := Kit.cell HX.out 5 _ rfl
      have x6 : wr.cell? ⟨w.heap.size, 6, none⟩ = some (.int .i64 s.pulse) := Kit.cell HX.out 6 _ rfl
      go_wp2_with fail
      refine (R1.out _ (HQ.out.below HB.out) (HS.out.below HB.out)).mono ?_; rintro e w3 ⟨v1, rfl, hown, hb⟩
      obtain ⟨A1, C1, rfl, hC1, hcell⟩ := own_open hown
      have hB3 := HB.out.trans (hb.mono HB.out.size)
      have hX3 := Kit.kept hb HX.out
      clear hb x0 x1 x2 x3 x4 x5 x6 HB HX hz
      have HB := Lib.hid hB3; have HX := Lib.hid hX3; clear hB3 hX3
      have HC1 := Lib.hid hcell; clear hcell hown
      have hz := Kit.lt HX.out
      have x0 : w3.cell? ⟨w.heap.size, 0, none⟩ = some (.int .i64 s.lines) := Kit.cell HX.out 0 _ rfl
      have x1 : w3.cell? ⟨w.heap.size, 1, none⟩ = some (.int .i64 s.columns) := Kit.cell HX.out 1 _ rfl
      have x2 : w3.cell? ⟨w.heap.size, 2, none⟩ = some (.int .i64 s.top) := Kit.cell HX.out 2 _ rfl
      have x3 : w3.cell? ⟨w.heap.size, 3, none⟩ = some (.int .i64 s.rows) := Kit.cell HX.out 3 _ rfl
      have x4 : w3.cell? ⟨w.heap.size, 4, none⟩ = some (.int .i64 s.left) := Kit.cell HX.out 4 _ rfl
      have x5 : w3.cell? ⟨w.heap.size, 5, none⟩ = some (.int .i64 s.wide) := Kit.cell HX.out 5 _ rfl
      have x6 : w3.cell? ⟨w.heap.size, 6, none⟩ = some (.int .i64 s.pulse) := Kit.cell HX.out 6 _ rfl
      go_wp2_with fail
      refine (R2.out _ (HQ.out.below HB.out) (HS.out.below HB.out)).mono ?_; rintro e w4 ⟨v2, rfl, _, hb⟩
      have hB3 := HB.out.trans (hb.mono HB.out.size)
      have hX3 := Kit.kept hb HX.out
      have hcell : 0 < k → ∃ g, A1 = some ⟨g, 0, none⟩ ∧ g < w4.heap.size ∧ ∀ i x, ((s.run (pairs qs bs k) t).1.map (Value.int .i64))[i]? = some x → w4.cell? ⟨g, i, none⟩ = some x := fun h0 => by
        obtain ⟨g, e1, _, e2, e3⟩ := HC1.out h0
        exact ⟨g, e1, Nat.lt_of_lt_of_le e2 hb.size, fun i x hx => (hb.cell (p := ⟨g, i, none⟩) e2).trans (e3 i x hx)⟩
      clear hb x0 x1 x2 x3 x4 x5 x6 HB HX hz HC1
      have HB := Lib.hid hB3; have HX := Lib.hid hX3; have HC1 := Lib.hid hcell; clear hB3 hX3 hcell
      have hz := Kit.lt HX.out
      have x0 : w4.cell? ⟨w.heap.size, 0, none⟩ = some (.int .i64 s.lines) := Kit.cell HX.out 0 _ rfl
      have x1 : w4.cell? ⟨w.heap.size, 1, none⟩ = some (.int .i64 s.columns) := Kit.cell HX.out 1 _ rfl
      have x2 : w4.cell? ⟨w.heap.size, 2, none⟩ = some (.int .i64 s.top) := Kit.cell HX.out 2 _ rfl
      have x3 : w4.cell? ⟨w.heap.size, 3, none⟩ = some (.int .i64 s.rows) := Kit.cell HX.out 3 _ rfl
      have x4 : w4.cell? ⟨w.heap.size, 4, none⟩ = some (.int .i64 s.left) := Kit.cell HX.out 4 _ rfl
      have x5 : w4.cell? ⟨w.heap.size, 5, none⟩ = some (.int .i64 s.wide) := Kit.cell HX.out 5 _ rfl
      have x6 : w4.cell? ⟨w.heap.size, 6, none⟩ = some (.int .i64 s.pulse) := Kit.cell HX.out 6 _ rfl
      go_wp2_with fail
      refine (HL.out _).mono ?_; rintro e w5 ⟨rfl, hb⟩
      have hB3 := HB.out.trans (hb.mono HB.out.size)
      have hX3 := Kit.kept hb HX.out
      have hcell : 0 < k → ∃ g, A1 = some ⟨g, 0, none⟩ ∧ g < w5.heap.size ∧ ∀ i x, ((s.run (pairs qs bs k) t).1.map (Value.int .i64))[i]? = some x → w5.cell? ⟨g, i, none⟩ = some x := fun h0 => by
        obtain ⟨g, e1, e2, e3⟩ := HC1.out h0
        exact ⟨g, e1, Nat.lt_of_lt_of_le e2 hb.size, fun i x hx => (hb.cell (p := ⟨g, i, none⟩) e2).trans (e3 i x hx)⟩
      clear hb x0 x1 x2 x3 x4 x5 x6 HB HX hz HC1
      have HB := Lib.hid hB3; have HX := Lib.hid hX3; have HC1 := Lib.hid hcell; clear hB3 hX3 hcell
      have hz := Kit.lt HX.out
      have x0 : w5.cell? ⟨w.heap.size, 0, none⟩ = some (.int .i64 s.lines) := Kit.cell HX.out 0 _ rfl
      have x1 : w5.cell? ⟨w.heap.size, 1, none⟩ = some (.int .i64 s.columns) := Kit.cell HX.out 1 _ rfl
      have x2 : w5.cell? ⟨w.heap.size, 2, none⟩ = some (.int .i64 s.top) := Kit.cell HX.out 2 _ rfl
      have x3 : w5.cell? ⟨w.heap.size, 3, none⟩ = some (.int .i64 s.rows) := Kit.cell HX.out 3 _ rfl
      have x4 : w5.cell? ⟨w.heap.size, 4, none⟩ = some (.int .i64 s.left) := Kit.cell HX.out 4 _ rfl
      have x5 : w5.cell? ⟨w.heap.size, 5, none⟩ = some (.int .i64 s.wide) := Kit.cell HX.out 5 _ rfl
      have x6 : w5.cell? ⟨w.heap.size, 6, none⟩ = some (.int .i64 s.pulse) := Kit.cell HX.out 6 _ rfl
      go_wp2_with fail
      refine (R3.out _ (HQ.out.below HB.out) (HS.out.below HB.out)).mono ?_; rintro e w6 ⟨v3, rfl, _, hb⟩
      have hB3 := HB.out.trans (hb.mono HB.out.size)
      have hX3 := Kit.kept hb HX.out
      have hcell : 0 < k → ∃ g, A1 = some ⟨g, 0, none⟩ ∧ g < w6.heap.size ∧ ∀ i x, ((s.run (pairs qs bs k) t).1.map (Value.int .i64))[i]? = some x → w6.cell? ⟨g, i, none⟩ = some x := fun h0 => by
        obtain ⟨g, e1, e2, e3⟩ := HC1.out h0
        exact ⟨g, e1, Nat.lt_of_lt_of_le e2 hb.size, fun i x hx => (hb.cell (p := ⟨g, i, none⟩) e2).trans (e3 i x hx)⟩
      clear hb x0 x1 x2 x3 x4 x5 x6 HB HX hz HC1
      have HB := Lib.hid hB3; have HX := Lib.hid hX3; have HC1 := Lib.hid hcell; clear hB3 hX3 hcell
      have hz := Kit.lt HX.out
      have hmono := s.run_mono HO.out (pairs qs bs k) (show t ≤ u by omega)
      have hframe := s.run_frame HO.out (pairs qs bs k) t
      have hrl := s.run_le (pairs qs bs k) (pairs_ok HALL.out bs (by rw [HQ.out.1]; omega)) t
      rw [pairs_length] at hrl
      rw [hframe]
      clear hframe
      clear R1 R2 R3 HL
      generalize hE : (s.run (pairs qs bs k) t).2 = E at *
      generalize (s.run (pairs qs bs k) u).2 = E2 at *
      have HE := Lib.hid hE; clear hE
      obtain ⟨hrl1, hrl2⟩ := hrl
      have t1 : decide (E2 < E) = false := decide_eq_false (by omega)
      have t2 : (E + s.lines * s.columns != E + s.lines * s.columns) = false := by simp
      have t3 : ((k : Int) != (k : Int)) = false := by simp
      go_wp2_with fail
      have HB3q := HB; have HX3q := HX; have HC3q := HC1
      have HE0 := HE
      clear t1 t2 t3 hmono
      obtain ⟨wo, hwo⟩ : ∃ wo : World, wo = wr := ⟨_, rfl⟩
      subst hwo
      go_loopw [22, 23] (fun nw i WQ => ∃ j : Nat, j ≤ k ∧ i = .int .i64 j ∧ nw = .int .i64 (s.run (pairs qs bs j) t).2 ∧ Hid (Below w.heap.size w WQ) ∧ Hid (WQ.heap[w.heap.size]? = some (.cells s.vals 40 (0, 0)))
          ∧ Hid (0 < k → ∃ g, A1 = some ⟨g, 0, none⟩ ∧ g < WQ.heap.size ∧ ∀ i x, ((s.run (pairs qs bs k) t).1.map (Value.int .i64))[i]? = some x → WQ.cell? ⟨g, i, none⟩ = some x)) (fun _ i _ => k - (intOf i).toNat)
      case atStart => exact ⟨0, Nat.zero_le _, rfl, rfl, HB3q.out, HX3q.out, HC3q.out⟩
      case round =>
        obtain ⟨j, hj, rfl, rfl, HB, HX, HC1⟩ := hrel
        have hz := Kit.lt HX.out
        by_cases hjk : j < k
        · obtain ⟨b, off, rfl, hblt, hc⟩ := HQ.out.2 (by omega)
          obtain ⟨c0, c1, c2_, c3⟩ := hc j hjk
          have c0 := (HB.out.cell (p := ⟨b, _, none⟩) hblt).trans c0
          have c1 := (HB.out.cell (p := ⟨b, _, none⟩) hblt).trans c1
          have c2_ := (HB.out.cell (p := ⟨b, _, none⟩) hblt).trans c2_
          have c3 := (HB.out.cell (p := ⟨b, _, none⟩) hblt).trans c3
          obtain ⟨g, rfl, hglt, hgc⟩ := HC1.out (by omega)
          have e1 := hgc j _ (by rw [List.getElem?_map, s.run_at qs bs t k j hjk]; rfl)
          have okq := HALL.out j (by rw [HQ.out.1]; exact hjk)
          have hT := s.run_le (pairs qs bs j) (pairs_ok HALL.out bs (by rw [HQ.out.1]; omega)) t
          rw [pairs_length] at hT
          obtain ⟨hT1, hT2⟩ := hT
          have hblt' : b < wr.heap.size := Nat.lt_of_lt_of_le hblt HB.out.size
          have hbd := s.req_bounds HO.out okq.1 (bs.getD j false) (s.run (pairs qs bs j) t).2
          have hsh := Rq.shape okq.1
          have hql : 1 ≤ (qs.getD j default).len ∧ (qs.getD j default).len ≤ 7 := by omega
          have hms : 0 ≤ s.most (qs.getD j default) ∧ s.most (qs.getD j default) ≤ 24 := by unfold Scr.most; split; omega; split <;> omega
          clear hc hgc hsh
          have HC := Lib.hid HC1.out; clear HC1
          by_cases hsl : j < m
          · obtain ⟨b2, off2, rfl, hb2, hcs⟩ := HS.out.2 (by omega)
            have s0 : wr.cell? ⟨b2, off2 + j, none⟩ = some (.bool (bs.getD j false)) := (HB.out.cell (p := ⟨b2, off2 + j, none⟩) hb2).trans (hcs j hsl)
            clear hcs
            have ds : decide (j < m) = true := decide_eq_true hsl
            generalize hfl : bs.getD j false = fl at *
            have HFL := Lib.hid hfl; clear hfl
            generalize hqk : qs.getD j default = q at *
            have HQK := Lib.hid hqk; clear hqk
            generalize hTT : (s.run (pairs qs bs j) t).2 = T at *
            have HTT := Lib.hid hTT; clear hTT
            go_wp2_with fail
            have y0 := fun d os => cell_regrown (Kit.cell HX.out 0 _ rfl : wr.cell? ⟨w.heap.size, 0, none⟩ = some (.int .i64 s.lines)) d os
            have y1 := fun d os => cell_regrown (Kit.cell HX.out 1 _ rfl : wr.cell? ⟨w.heap.size, 1, none⟩ = some (.int .i64 s.columns)) d os
            have y2 := fun d os => cell_regrown (Kit.cell HX.out 2 _ rfl : wr.cell? ⟨w.heap.size, 2, none⟩ = some (.int .i64 s.top)) d os
            have y3 := fun d os => cell_regrown (Kit.cell HX.out 3 _ rfl : wr.cell? ⟨w.heap.size, 3, none⟩ = some (.int .i64 s.rows)) d os
            have y4 := fun d os => cell_regrown (Kit.cell HX.out 4 _ rfl : wr.cell? ⟨w.heap.size, 4, none⟩ = some (.int .i64 s.left)) d os
            have y5 := fun d os => cell_regrown (Kit.cell HX.out 5 _ rfl : wr.cell? ⟨w.heap.size, 5, none⟩ = some (.int .i64 s.wide)) d os
            have y6 := fun d os => cell_regrown (Kit.cell HX.out 6 _ rfl : wr.cell? ⟨w.heap.size, 6, none⟩ = some (.int .i64 s.pulse)) d os
            have v0 := fun d os => cell_regrown c0 d os
            have v1 := fun d os => cell_regrown c1 d os
            have v2 := fun d os => cell_regrown c2_ d os
            have v3 := fun d os => cell_regrown c3 d os
            have s1 := fun d os => cell_regrown s0 d os
            refine wp_region_quiet_below (by kernel_rfl) (by kernel_rfl) ?_
            repeat (go_big_quiet_step ((exact Calls.regrown_of (request_calls s q T HO.out okq.1 okq.2.1 okq.2.2 (by omega) (by omega) fl _))))
            refine wpQuiet_nil ?_
            intro _ hw'
            obtain ⟨⟨dq, osq⟩, hw''⟩ := hw'
            subst hw''
            have hbb := below_regrown wr dq osq
            generalize Sort.grow (redrawn wr dq) osq = w7 at *
            clear y0 y1 y2 y3 y4 y5 y6 v0 v1 v2 v3 s1
            have hB3 := HB.out.trans (hbb.mono HB.out.size)
            have hX3 := Kit.kept hbb HX.out
            have hC3 : 0 < k → ∃ g', (some ⟨g, 0, none⟩ : Option Addr) = some ⟨g', 0, none⟩ ∧ g' < w7.heap.size ∧ ∀ i x, ((s.run (pairs qs bs k) t).1.map (Value.int .i64))[i]? = some x → w7.cell? ⟨g', i, none⟩ = some x := fun h0 => by
              obtain ⟨g', e1', e2', e3'⟩ := HC.out h0
              exact ⟨g', e1', Nat.lt_of_lt_of_le e2' hbb.size, fun i x hx => (hbb.cell (p := ⟨g', i, none⟩) e2').trans (e3' i x hx)⟩
            have e1 := (hbb.cell (p := ⟨g, j, none⟩) hglt).trans e1
            have c0 := (hbb.cell (p := ⟨b, _, none⟩) hblt').trans c0
            have c1 := (hbb.cell (p := ⟨b, _, none⟩) hblt').trans c1
            have c2_ := (hbb.cell (p := ⟨b, _, none⟩) hblt').trans c2_
            have c3 := (hbb.cell (p := ⟨b, _, none⟩) hblt').trans c3
            clear hbb HB HX HC hz
            have HB := Lib.hid hB3; have HX := Lib.hid hX3; have HC := Lib.hid hC3; clear hB3 hX3 hC3
            have hz := Kit.lt HX.out
            obtain ⟨hb1, hb2_, hb3, hb4⟩ := hbd
            generalize hP1 : (s.req q fl T).1 = P1 at *
            generalize hP2 : (s.req q fl T).2 = P2 at *
            have HP1 := Lib.hid hP1; have HP2 := Lib.hid hP2; clear hP1 hP2
            have hmc := most_calls s q HO.out
            unfold Scr.val Scr.vals Rq.val Rq.vals at hmc
            have HMC := Lib.hid hmc; clear hmc
            generalize s.most q = M at *
            have u1 : (P1 != P1) = false := by simp
            have u2 : decide (P1 < T) = false := decide_eq_false (by omega)
            have u3 : decide (P2 ≤ P1) = false := decide_eq_false (by omega)
            have u4 : decide (P2 < T + q.len) = false := decide_eq_false (by omega)
            have u5 : decide (T + (q.len + M) < P2) = false := decide_eq_false (by omega)
            have y0 := fun d os => cell_regrown (Kit.cell HX.out 0 _ rfl : w7.cell? ⟨w.heap.size, 0, none⟩ = some (.int .i64 s.lines)) d os
            have y1 := fun d os => cell_regrown (Kit.cell HX.out 1 _ rfl : w7.cell? ⟨w.heap.size, 1, none⟩ = some (.int .i64 s.columns)) d os
            have y2 := fun d os => cell_regrown (Kit.cell HX.out 2 _ rfl : w7.cell? ⟨w.heap.size, 2, none⟩ = some (.int .i64 s.top)) d os
            have y3 := fun d os => cell_regrown (Kit.cell HX.out 3 _ rfl : w7.cell? ⟨w.heap.size, 3, none⟩ = some (.int .i64 s.rows)) d os
            have y4 := fun d os => cell_regrown (Kit.cell HX.out 4 _ rfl : w7.cell? ⟨w.heap.size, 4, none⟩ = some (.int .i64 s.left)) d os
            have y5 := fun d os => cell_regrown (Kit.cell HX.out 5 _ rfl : w7.cell? ⟨w.heap.size, 5, none⟩ = some (.int .i64 s.wide)) d os
            have y6 := fun d os => cell_regrown (Kit.cell HX.out 6 _ rfl : w7.cell? ⟨w.heap.size, 6, none⟩ = some (.int .i64 s.pulse)) d os
            have v0 := fun d os => cell_regrown c0 d os
            have v1 := fun d os => cell_regrown c1 d os
            have v2 := fun d os => cell_regrown c2_ d os
            have v3 := fun d os => cell_regrown c3 d os
            have v4 := fun d os => cell_regrown e1 d os
            go_wp2_with fail
            refine wp_region_quiet_below (by kernel_rfl) (by kernel_rfl) ?_
            repeat (go_big_quiet_step ((exact Calls.regrown_of (HMC.out _))))
            refine wpQuiet_nil ?_
            intro _ hw'
            obtain ⟨⟨dq, osq⟩, hw''⟩ := hw'
            subst hw''
            have hbb := below_regrown w7 dq osq
            generalize Sort.grow (redrawn w7 dq) osq = w8 at *
            clear y0 y1 y2 y3 y4 y5 y6 v0 v1 v2 v3 v4
            have hB3 := HB.out.trans (hbb.mono HB.out.size)
            have hX3 := Kit.kept hbb HX.out
            have hC3 : 0 < k → ∃ g', (some ⟨g, 0, none⟩ : Option Addr) = some ⟨g', 0, none⟩ ∧ g' < w8.heap.size ∧ ∀ i x, ((s.run (pairs qs bs k) t).1.map (Value.int .i64))[i]? = some x → w8.cell? ⟨g', i, none⟩ = some x := fun h0 => by
              obtain ⟨g', e1', e2', e3'⟩ := HC.out h0
              exact ⟨g', e1', Nat.lt_of_lt_of_le e2' hbb.size, fun i x hx => (hbb.cell (p := ⟨g', i, none⟩) e2').trans (e3' i x hx)⟩
            have HB3 := Lib.hid hB3; have HX3 := Lib.hid hX3; have HC3 := Lib.hid hC3; clear hB3 hX3 hC3 hbb HB HX HC
            go_wp2_with fail
            go_roundw
            case rel => exact ⟨j + 1, by omega, by go_num, by rw [pairs_succ, s.run_snoc, HQK.out, HFL.out, HTT.out, HP2.out], HB3.out, HX3.out, HC3.out⟩
            case measure => simp [intOf]; omega
          · have hfl : bs.getD j false = false := by
              have hl := HS.out.1
              simp [List.getD, List.getElem?_eq_none (show bs.length ≤ j by omega)]
            rw [hfl] at e1 hbd
            have ds : decide (j < m) = false := decide_eq_false hsl
            have HFL := Lib.hid hfl; clear hfl
            generalize hqk : qs.getD j default = q at *
            have HQK := Lib.hid hqk; clear hqk
            generalize hTT : (s.run (pairs qs bs j) t).2 = T at *
            have HTT := Lib.hid hTT; clear hTT
            go_wp2_with fail
            have y0 := fun d os => cell_regrown (Kit.cell HX.out 0 _ rfl : wr.cell? ⟨w.heap.size, 0, none⟩ = some (.int .i64 s.lines)) d os
            have y1 := fun d os => cell_regrown (Kit.cell HX.out 1 _ rfl : wr.cell? ⟨w.heap.size, 1, none⟩ = some (.int .i64 s.columns)) d os
            have y2 := fun d os => cell_regrown (Kit.cell HX.out 2 _ rfl : wr.cell? ⟨w.heap.size, 2, none⟩ = some (.int .i64 s.top)) d os
            have y3 := fun d os => cell_regrown (Kit.cell HX.out 3 _ rfl : wr.cell? ⟨w.heap.size, 3, none⟩ = some (.int .i64 s.rows)) d os
            have y4 := fun d os => cell_regrown (Kit.cell HX.out 4 _ rfl : wr.cell? ⟨w.heap.size, 4, none⟩ = some (.int .i64 s.left)) d os
            have y5 := fun d os => cell_regrown (Kit.cell HX.out 5 _ rfl : wr.cell? ⟨w.heap.size, 5, none⟩ = some (.int .i64 s.wide)) d os
            have y6 := fun d os => cell_regrown (Kit.cell HX.out 6 _ rfl : wr.cell? ⟨w.heap.size, 6, none⟩ = some (.int .i64 s.pulse)) d os
            have v0 := fun d os => cell_regrown c0 d os
            have v1 := fun d os => cell_regrown c1 d os
            have v2 := fun d os => cell_regrown c2_ d os
            have v3 := fun d os => cell_regrown c3 d os
            refine wp_region_quiet_below (by kernel_rfl) (by kernel_rfl) ?_
            repeat (go_big_quiet_step ((exact Calls.regrown_of (request_calls s q T HO.out okq.1 okq.2.1 okq.2.2 (by omega) (by omega) false _))))
            refine wpQuiet_nil ?_
            intro _ hw'
            obtain ⟨⟨dq, osq⟩, hw''⟩ := hw'
            subst hw''
            have hbb := below_regrown wr dq osq
            generalize Sort.grow (redrawn wr dq) osq = w7 at *
            clear y0 y1 y2 y3 y4 y5 y6 v0 v1 v2 v3 
            have hB3 := HB.out.trans (hbb.mono HB.out.size)
            have hX3 := Kit.kept hbb HX.out
            have hC3 : 0 < k → ∃ g', (some ⟨g, 0, none⟩ : Option Addr) = some ⟨g', 0, none⟩ ∧ g' < w7.heap.size ∧ ∀ i x, ((s.run (pairs qs bs k) t).1.map (Value.int .i64))[i]? = some x → w7.cell? ⟨g', i, none⟩ = some x := fun h0 => by
              obtain ⟨g', e1', e2', e3'⟩ := HC.out h0
              exact ⟨g', e1', Nat.lt_of_lt_of_le e2' hbb.size, fun i x hx => (hbb.cell (p := ⟨g', i, none⟩) e2').trans (e3' i x hx)⟩
            have e1 := (hbb.cell (p := ⟨g, j, none⟩) hglt).trans e1
            have c0 := (hbb.cell (p := ⟨b, _, none⟩) hblt').trans c0
            have c1 := (hbb.cell (p := ⟨b, _, none⟩) hblt').trans c1
            have c2_ := (hbb.cell (p := ⟨b, _, none⟩) hblt').trans c2_
            have c3 := (hbb.cell (p := ⟨b, _, none⟩) hblt').trans c3
            clear hbb HB HX HC hz
            have HB := Lib.hid hB3; have HX := Lib.hid hX3; have HC := Lib.hid hC3; clear hB3 hX3 hC3
            have hz := Kit.lt HX.out
            obtain ⟨hb1, hb2_, hb3, hb4⟩ := hbd
            generalize hP1 : (s.req q false T).1 = P1 at *
            generalize hP2 : (s.req q false T).2 = P2 at *
            have HP1 := Lib.hid hP1; have HP2 := Lib.hid hP2; clear hP1 hP2
            have hmc := most_calls s q HO.out
            unfold Scr.val Scr.vals Rq.val Rq.vals at hmc
            have HMC := Lib.hid hmc; clear hmc
            generalize s.most q = M at *
            have u1 : (P1 != P1) = false := by simp
            have u2 : decide (P1 < T) = false := decide_eq_false (by omega)
            have u3 : decide (P2 ≤ P1) = false := decide_eq_false (by omega)
            have u4 : decide (P2 < T + q.len) = false := decide_eq_false (by omega)
            have u5 : decide (T + (q.len + M) < P2) = false := decide_eq_false (by omega)
            have y0 := fun d os => cell_regrown (Kit.cell HX.out 0 _ rfl : w7.cell? ⟨w.heap.size, 0, none⟩ = some (.int .i64 s.lines)) d os
            have y1 := fun d os => cell_regrown (Kit.cell HX.out 1 _ rfl : w7.cell? ⟨w.heap.size, 1, none⟩ = some (.int .i64 s.columns)) d os
            have y2 := fun d os => cell_regrown (Kit.cell HX.out 2 _ rfl : w7.cell? ⟨w.heap.size, 2, none⟩ = some (.int .i64 s.top)) d os
            have y3 := fun d os => cell_regrown (Kit.cell HX.out 3 _ rfl : w7.cell? ⟨w.heap.size, 3, none⟩ = some (.int .i64 s.rows)) d os
            have y4 := fun d os => cell_regrown (Kit.cell HX.out 4 _ rfl : w7.cell? ⟨w.heap.size, 4, none⟩ = some (.int .i64 s.left)) d os
            have y5 := fun d os => cell_regrown (Kit.cell HX.out 5 _ rfl : w7.cell? ⟨w.heap.size, 5, none⟩ = some (.int .i64 s.wide)) d os
            have y6 := fun d os => cell_regrown (Kit.cell HX.out 6 _ rfl : w7.cell? ⟨w.heap.size, 6, none⟩ = some (.int .i64 s.pulse)) d os
            have v0 := fun d os => cell_regrown c0 d os
            have v1 := fun d os => cell_regrown c1 d os
            have v2 := fun d os => cell_regrown c2_ d os
            have v3 := fun d os => cell_regrown c3 d os
            have v4 := fun d os => cell_regrown e1 d os
            go_wp2_with fail
            refine wp_region_quiet_below (by kernel_rfl) (by kernel_rfl) ?_
            repeat (go_big_quiet_step ((exact Calls.regrown_of (HMC.out _))))
            refine wpQuiet_nil ?_
            intro _ hw'
            obtain ⟨⟨dq, osq⟩, hw''⟩ := hw'
            subst hw''
            have hbb := below_regrown w7 dq osq
            generalize Sort.grow (redrawn w7 dq) osq = w8 at *
            clear y0 y1 y2 y3 y4 y5 y6 v0 v1 v2 v3 v4
            have hB3 := HB.out.trans (hbb.mono HB.out.size)
            have hX3 := Kit.kept hbb HX.out
            have hC3 : 0 < k → ∃ g', (some ⟨g, 0, none⟩ : Option Addr) = some ⟨g', 0, none⟩ ∧ g' < w8.heap.size ∧ ∀ i x, ((s.run (pairs qs bs k) t).1.map (Value.int .i64))[i]? = some x → w8.cell? ⟨g', i, none⟩ = some x := fun h0 => by
              obtain ⟨g', e1', e2', e3'⟩ := HC.out h0
              exact ⟨g', e1', Nat.lt_of_lt_of_le e2' hbb.size, fun i x hx => (hbb.cell (p := ⟨g', i, none⟩) e2').trans (e3' i x hx)⟩
            have HB3 := Lib.hid hB3; have HX3 := Lib.hid hX3; have HC3 := Lib.hid hC3; clear hB3 hX3 hC3 hbb HB HX HC
            go_wp2_with fail
            go_roundw
            case rel => exact ⟨j + 1, by omega, by go_num, by rw [pairs_succ, s.run_snoc, HQK.out, HFL.out, HTT.out, HP2.out], HB3.out, HX3.out, HC3.out⟩
            case measure => simp [intOf]; omega
        · obtain rfl : j = k := by omega
          rw [HE.out]
          have he : (E == E) = true := by simp
          go_wp2_with fail
          go_ret
          exact ⟨by simp, HB.out⟩
end Go.Proofs.YthbbbmomlehimaaR.Ts
