import Derived.Test.YthbbbmomlehimaaRLkE
import Derived.IntWalk
set_option linter.unusedVariables false
namespace Go.Proofs.YthbbbmomlehimaaR.Lk
open Go.RowKit

theorem below_own_drew {w : World} {base : Nat} {e : TypeId} {size n : Nat} {v : Value} {xs : List Value} (h : w.ownsRow base e size v n xs) : w.drew.ownsRow base e size v n xs := h
set_option maxRecDepth 100000 in
theorem msgs_calls (A B : Option Addr) (n c c2 : Nat) (l : List Mg) (w : World) (ha : MsgsAt w A n l) (hb : MsgsAt w B n l) (hn : n ≤ 1000000) :
    Calls Try.prog 21 #[.slice A n c, .slice B n c2] w fun e w' => e = .returned (.bool true) ∧ Below w.heap.size w w' := by
  have HA := Lib.hid ha; have HB := Lib.hid hb; clear ha hb
  have d0 : ((n : Int) != n) = false := by simp
  have d0b : ((n : Int) == n) = true := by simp
  go_enter Try.func21, Try.ntmps21
  go_wp2_with fail
  go_loopw [5] (fun i wr => ∃ k : Nat, k ≤ n ∧ i = .int .i64 k ∧ Hid (Below w.heap.size w wr)) (fun i _ => n - (intOf i).toNat)
  case atStart => exact ⟨0, Nat.zero_le _, rfl, Below.refl _ _⟩
  case round =>
    obtain ⟨k, hk, rfl, HW⟩ := hrel
    by_cases hlt : k < n
    · obtain ⟨b1, o1, rfl, hb1, hc1⟩ := (HA.out.below HW.out).2 (by omega)
      obtain ⟨b2, o2, rfl, hb2, hc2⟩ := (HB.out.below HW.out).2 (by omega)
      have x0 : wr.cell? ⟨b1, o1 + k * 7, none⟩ = some (.int .i64 (l.getD k default).kind) := hc1 k 0 hlt (by decide)
      have x1 : wr.cell? ⟨b1, o1 + k * 7 + 1, none⟩ = some (.int .i64 (l.getD k default).time) := hc1 k 1 hlt (by decide)
      have x2 : wr.cell? ⟨b1, o1 + k * 7 + 2, none⟩ = some (.int .i64 (l.getD k default).cls) := hc1 k 2 hlt (by decide)
      have x3 : wr.cell? ⟨b1, o1 + k * 7 + 3, none⟩ = some (.int .u8 (l.getD k default).high) := hc1 k 3 hlt (by decide)
      have x4 : wr.cell? ⟨b1, o1 + k * 7 + 4, none⟩ = some (.int .i64 (l.getD k default).bank) := hc1 k 4 hlt (by decide)
      have x5 : wr.cell? ⟨b1, o1 + k * 7 + 5, none⟩ = some (.int .i64 (l.getD k default).place) := hc1 k 5 hlt (by decide)
      have x6 : wr.cell? ⟨b1, o1 + k * 7 + 6, none⟩ = some (.int .u8 (l.getD k default).value) := hc1 k 6 hlt (by decide)
      have y0 : wr.cell? ⟨b2, o2 + k * 7, none⟩ = some (.int .i64 (l.getD k default).kind) := hc2 k 0 hlt (by decide)
      have y1 : wr.cell? ⟨b2, o2 + k * 7 + 1, none⟩ = some (.int .i64 (l.getD k default).time) := hc2 k 1 hlt (by decide)
      have y2 : wr.cell? ⟨b2, o2 + k * 7 + 2, none⟩ = some (.int .i64 (l.getD k default).cls) := hc2 k 2 hlt (by decide)
      have y3 : wr.cell? ⟨b2, o2 + k * 7 + 3, none⟩ = some (.int .u8 (l.getD k default).high) := hc2 k 3 hlt (by decide)
      have y4 : wr.cell? ⟨b2, o2 + k * 7 + 4, none⟩ = some (.int .i64 (l.getD k default).bank) := hc2 k 4 hlt (by decide)
      have y5 : wr.cell? ⟨b2, o2 + k * 7 + 5, none⟩ = some (.int .i64 (l.getD k default).place) := hc2 k 5 hlt (by decide)
      have y6 : wr.cell? ⟨b2, o2 + k * 7 + 6, none⟩ = some (.int .u8 (l.getD k default).value) := hc2 k 6 hlt (by decide)
      clear hc1 hc2
      generalize l.getD k default = M at *
      have q1 : (0 : Int) ≤ k := by omega
      have q2 : (k : Int) < n := by omega
      have er := eqMg_rfl M.kind M.time M.cls M.high M.bank M.place M.value
      have dk : decide (k < n) = true := decide_eq_true hlt
      go_wp2_with fail
      go_quiet (fail)
      go_wp2_with fail
      go_roundw
      case rel => exact ⟨k + 1, by omega, by go_num, below_drewN HW.out _⟩
      case measure => simp [intOf]; omega
    · have dk : decide (k < n) = false := decide_eq_false hlt
      go_wp2_with fail
      go_ret
      exact ⟨rfl, HW.out⟩

theorem info33b : (Try.prog.info? 33).map (fun i => (i.zero.map (·.cells.size), i.size, i.bytes)) = some (some 7, 7, 56) := by kernel_rfl
/-- What is on its way, in order. -/
def queue (ring : Nat → Mg) (n fr c : Nat) : List Mg := (List.range c).map fun i => ring ((fr + i) % n)
theorem queue_succ (ring : Nat → Mg) (n fr c : Nat) : queue ring n fr (c + 1) = queue ring n fr c ++ [ring ((fr + c) % n)] := by simp [queue, List.range_succ]

set_option maxRecDepth 100000 in
set_option maxHeartbeats 1000000 in
theorem all_calls {w : World} {g r n fr c : Nat} {ring : Nat → Mg} {mark : Int} {ended : Bool} (h : LkRaw w g r n fr c ring mark ended) :
    Calls Try.prog 22 #[.pointer (some ⟨g, 0, none⟩)] w fun e w' => ∃ v, e = .returned v ∧ w'.ownsRow w.heap.size 33 7 v c (mcells (queue ring n fr c)) ∧ Below w.heap.size w w' := by
  have H := Lib.hid h
  have n1 := h.n1; have n2 := h.n2; have f1 := h.f1; have c1 := h.c1; clear h
  obtain ⟨i0, z0, hi, hz0, hzc, hz1, hz2⟩ := made33
  have hz3 : z0.cells.size = 7 := by rw [hzc]; rfl
  have HI := Lib.hid hi; have HZ0 := Lib.hid hz0; have HZ1 := Lib.hid hz1; have HZ2 := Lib.hid hz2; have HZ3 := Lib.hid hz3; clear hi hz0 hz1 hz2 hzc hz3
  have dn : ((n : Int) == 0) = false := beq_eq_false_iff_ne.2 (by omega)
  go_enter Try.func22, Try.ntmps22
  go_wp2_with fail
  refine (len_calls H.out).mono ?_; rintro e w' ⟨rfl, rfl⟩
  go_wp2_with fail
  have O0 : Hid (w.ownsRow w.heap.size 33 7 (.slice none 0 0) 0 (mcells (queue ring n fr 0))) := World.ownsRow_nil _ _ _ _
  go_loopw [3, 4, 7] (fun v u i wr => ∃ k : Nat, k ≤ c ∧ i = .int .i64 k ∧ Hid (wr.ownsRow w.heap.size 33 7 v k (mcells (queue ring n fr k))) ∧ Hid (Below w.heap.size w wr)) (fun _ _ i _ => c - (intOf i).toNat)
  case atStart => exact ⟨0, Nat.zero_le _, rfl, O0, Below.refl _ _⟩
  case round =>
    obtain ⟨k, hk, rfl, HO, HW⟩ := hrel
    have hsz := HW.out.size
    by_cases hlt : k < c
    · have dk : decide (k < c) = true := decide_eq_true hlt
      have H2 := Lib.hid (H.out.kept HW.out)
      have hj : ((fr : Int) + k) % n = ((fr + k) % n : Nat) := by simp
      have hjn : (fr + k) % n < n := Nat.mod_lt _ (by omega)
      have hqs := queue_succ ring n fr k
      generalize hjj : (fr + k) % n = j at *
      have HQ := Lib.hid hqs; clear hqs hjj
      have a0 : wr.cell? ⟨g, 0, none⟩ = some (.slice (some ⟨r, 0, none⟩) n n) := Kit.cell H2.out.blk 0 _ rfl
      have a1 : wr.cell? ⟨g, 1, none⟩ = some (.int .i64 fr) := Kit.cell H2.out.blk 1 _ rfl
      have e0 : wr.cell? ⟨r, j * 7, none⟩ = some (.int .i64 (ring j).kind) := H2.out.cell j 0 hjn (by decide)
      have e1 : wr.cell? ⟨r, j * 7 + 1, none⟩ = some (.int .i64 (ring j).time) := H2.out.cell j 1 hjn (by decide)
      have e2 : wr.cell? ⟨r, j * 7 + 2, none⟩ = some (.int .i64 (ring j).cls) := H2.out.cell j 2 hjn (by decide)
      have e3 : wr.cell? ⟨r, j * 7 + 3, none⟩ = some (.int .u8 (ring j).high) := H2.out.cell j 3 hjn (by decide)
      have e4 : wr.cell? ⟨r, j * 7 + 4, none⟩ = some (.int .i64 (ring j).bank) := H2.out.cell j 4 hjn (by decide)
      have e5 : wr.cell? ⟨r, j * 7 + 5, none⟩ = some (.int .i64 (ring j).place) := H2.out.cell j 5 hjn (by decide)
      have e6 : wr.cell? ⟨r, j * 7 + 6, none⟩ = some (.int .u8 (ring j).value) := H2.out.cell j 6 hjn (by decide)
      generalize hM : ring j = M at *
      have HM := Lib.hid hM; clear hM
      have q1 : (0 : Int) ≤ j := by omega
      have q2 : (j : Int) < n := by omega
      have lg := H2.out.gl; have lr := H2.out.rl
      have ag := Kit.own_ne HO.out H.out.gl
      have ar := Kit.own_ne HO.out H.out.rl
      have c3 : k + 1 ≤ maxLen := by simp [maxLen]; omega
      have c4 : (k + 1) * 56 ≤ 140737488355328 := by omega
      have HH1 := Lib.hid hj; clear hj
      have hwr : IntKind.i64.wrap ((fr : Int) + k) = fr + k := IntWalk.i64_in _ (by omega)
      have htm : Int.tmod ((fr : Int) + k) n = j := by rw [Int.tmod_eq_emod_of_nonneg (by omega)]; exact HH1.out
      have hwj : IntKind.i64.wrap (j : Int) = j := IntWalk.i64_in _ (by omega)
      have hn0 : ¬ n = 0 := by omega
      have hn1 : ¬ (n : Int) = 0 := by omega
      have hn2 : (0 : Int) < n := by omega
      have hs0 : (0 : Int) ≤ (fr : Int) + k := by omega
      have hj := HH1.out
      go_wp2_with fail
      go_region_held3 (fun w' => w'.cell? ⟨g, 0, none⟩ = some (.slice (some ⟨r, 0, none⟩) n n) ∧ w'.cell? ⟨g, 1, none⟩ = some (.int .i64 fr) ∧ w'.cell? ⟨r, j * 7, none⟩ = some (.int .i64 M.kind) ∧ w'.cell? ⟨r, j * 7 + 1, none⟩ = some (.int .i64 M.time) ∧ w'.cell? ⟨r, j * 7 + 2, none⟩ = some (.int .i64 M.cls) ∧ w'.cell? ⟨r, j * 7 + 3, none⟩ = some (.int .u8 M.high) ∧ w'.cell? ⟨r, j * 7 + 4, none⟩ = some (.int .i64 M.bank) ∧ w'.cell? ⟨r, j * 7 + 5, none⟩ = some (.int .i64 M.place) ∧ w'.cell? ⟨r, j * 7 + 6, none⟩ = some (.int .u8 M.value))
        (first
          | go_keep
          | (go_split_ands
             refine ⟨?_, ?_, ?_, ?_, ?_, ?_, ?_, ?_, ?_⟩
             · (rw [hgrow.cell_far _ (by simp; omega) (Ne.symm ag)]; assumption)
             · (rw [hgrow.cell_far _ (by simp; omega) (Ne.symm ag)]; assumption)
             · (rw [hgrow.cell_far _ (by simp; omega) (Ne.symm ar)]; assumption)
             · (rw [hgrow.cell_far _ (by simp; omega) (Ne.symm ar)]; assumption)
             · (rw [hgrow.cell_far _ (by simp; omega) (Ne.symm ar)]; assumption)
             · (rw [hgrow.cell_far _ (by simp; omega) (Ne.symm ar)]; assumption)
             · (rw [hgrow.cell_far _ (by simp; omega) (Ne.symm ar)]; assumption)
             · (rw [hgrow.cell_far _ (by simp; omega) (Ne.symm ar)]; assumption)
             · (rw [hgrow.cell_far _ (by simp; omega) (Ne.symm ar)]; assumption)))
        ((refine step_append_lies _ (by rfl) _ _ _ (by rfl) w.heap.size 33 i0 _ 7 56 Try.underlying22 HI.out HZ0.out HZ1.out HZ2.out HZ3.out (by omega) u3 k (mcells (queue ring n fr k)) (by rfl) ((HO.out.alloc _).drew)
            ⟨wr.heap.size, 0, none⟩ 1 1 M.vals.toList (by rfl) (by rfl) (World.news_of_block (cs := M.vals) (t := 33) (fr := (0, 0)) (heap_alloc_new wr _)) (by simp [Value.oneCell', Mg.vals])
            (by omega) c3 c4 (by simp; omega) (wr.heap.size + 1) (by simp) ?_; intro gg cap w3 hown3 hgrow hat hltt))
      have hB3 : Below w.heap.size w w3 := Kit.grown_below (below_drew (HW.out.alloc hsz _)) (below_own_drew (HO.out.alloc _)) hgrow (by simp; omega) (Nat.le_refl _)
      have hq : mcells (queue ring n fr k) ++ M.vals.toList = mcells (queue ring n fr (k + 1)) := by rw [HQ.out, mcells_snoc]
      rw [hq] at hown3
      clear hwr htm hwj hgrow hq a0 a1 e0 e1 e2 e3 e4 e5 e6 hat hj
      have HO3 := Lib.hid hown3; have HB3 := Lib.hid hB3; clear hown3 hB3
      go_wp2_with fail
      go_roundw
      case rel => exact ⟨k + 1, by omega, by go_num, HO3, HB3⟩
      case measure => simp [intOf]; omega
    · obtain rfl : k = c := by omega
      have dk : decide (k < k) = false := decide_eq_false hlt
      go_wp2_with fail
      go_ret
      exact ⟨_, rfl, HO.out, HW.out⟩
end Go.Proofs.YthbbbmomlehimaaR.Lk
