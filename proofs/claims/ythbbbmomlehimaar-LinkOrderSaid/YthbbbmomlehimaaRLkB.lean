import Derived.Test.YthbbbmomlehimaaRLkA
import Derived.Test.YthbbbmomlehimaaRQtA
import Derived.Deep.Cut
set_option linter.unusedVariables false
namespace Go.Proofs.YthbbbmomlehimaaR.Lk
open Go.RowKit

/-- All blocks but two stay as they were. -/
structure But2 (p q : Nat) (w w' : World) : Prop where
  os : w'.os = w.os
  tape : w'.tape = w.tape
  output : w'.output = w.output
  size : w.heap.size ≤ w'.heap.size
  block : ∀ k, k < w.heap.size → k ≠ p → k ≠ q → w'.heap[k]? = w.heap[k]?
theorem But2.refl (p q : Nat) (w : World) : But2 p q w w := ⟨rfl, rfl, rfl, Nat.le_refl _, fun _ _ _ _ => rfl⟩
theorem But2.trans {p q : Nat} {a b c : World} (h : But2 p q a b) (k : But2 p q b c) : But2 p q a c :=
  ⟨k.os.trans h.os, k.tape.trans h.tape, k.output.trans h.output, Nat.le_trans h.size k.size, fun i hi hp hq => (k.block i (Nat.lt_of_lt_of_le hi h.size) hp hq).trans (h.block i hi hp hq)⟩
theorem But2.of_below {p q : Nat} {w w' : World} (h : Below w.heap.size w w') : But2 p q w w' := ⟨h.os, h.tape, h.output, h.size, fun k hk _ _ => h.block k hk⟩
theorem But2.of_left {p q : Nat} {w w' : World} (h : Kit.But p w w') : But2 p q w w' := ⟨h.os, h.tape, h.output, h.size, fun k hk hp _ => h.block k hk hp⟩
theorem But2.of_right {p q : Nat} {w w' : World} (h : Kit.But q w w') : But2 p q w w' := ⟨h.os, h.tape, h.output, h.size, fun k hk _ hq => h.block k hk hq⟩
theorem But2.blk {p q : Nat} {w w' : World} (h : But2 p q w w') {k : Nat} {o : Obj} (hk : w.heap[k]? = some o) (hp : k ≠ p) (hq : k ≠ q) : w'.heap[k]? = some o := (h.block k (Kit.lt hk) hp hq).trans hk
theorem But2.below {p q B : Nat} {a b c : World} (h : Below B a b) (k : But2 p q b c) (hp : B ≤ p) (hq : B ≤ q) (hB : B ≤ b.heap.size) : Below B a c :=
  ⟨k.os.trans h.os, k.tape.trans h.tape, k.output.trans h.output, Nat.le_trans h.size k.size, fun i hi => (k.block i (by omega) (by omega) (by omega)).trans (h.block i hi)⟩
/-! A link in memory: its block g, its ring's block r. -/
structure LkRaw (w : World) (g r n fr c : Nat) (ring : Nat → Mg) (mark : Int) (ended : Bool) : Prop where
  blk : w.heap[g]? = some (.cells #[.slice (some ⟨r, 0, none⟩) n n, .int .i64 fr, .int .i64 c, .int .i64 mark, .bool ended] 128 (0, 0))
  ne : g ≠ r
  rl : r < w.heap.size
  cell : ∀ i k, i < n → k < 7 → w.cell? ⟨r, i * 7 + k, none⟩ = (ring i).vals[k]?
  frz : ∀ o, w.frozen? ⟨r, o, none⟩ = false
  n1 : 1 ≤ n
  n2 : n ≤ 4096
  f1 : fr < n
  c1 : c ≤ n
section
variable {w w' : World} {g r n fr c : Nat} {ring : Nat → Mg} {mark : Int} {ended : Bool}
theorem LkRaw.gl (h : LkRaw w g r n fr c ring mark ended) : g < w.heap.size := Kit.lt h.blk
theorem LkRaw.keep {B : Nat} (h : LkRaw w g r n fr c ring mark ended) (hb : Below B w w') (hg : g < B) (hr : r < B) : LkRaw w' g r n fr c ring mark ended :=
  ⟨Kit.keep hb h.blk hg, h.ne, Nat.lt_of_lt_of_le h.rl hb.size, fun i k hi hk => (hb.cell (p := ⟨r, _, none⟩) hr).trans (h.cell i k hi hk), fun o => (hb.frozen (p := ⟨r, o, none⟩) hr).trans (h.frz o), h.n1, h.n2, h.f1, h.c1⟩
theorem LkRaw.kept (h : LkRaw w g r n fr c ring mark ended) (hb : Below w.heap.size w w') : LkRaw w' g r n fr c ring mark ended := h.keep hb h.gl h.rl
theorem LkRaw.turn {fr' c' : Nat} {mark' : Int} {ended' : Bool} (h : LkRaw w g r n fr c ring mark ended) (hb : Kit.But g w w')
    (hg : w'.heap[g]? = some (.cells #[.slice (some ⟨r, 0, none⟩) n n, .int .i64 fr', .int .i64 c', .int .i64 mark', .bool ended'] 128 (0, 0))) (hf : fr' < n) (hc : c' ≤ n) : LkRaw w' g r n fr' c' ring mark' ended' :=
  ⟨hg, h.ne, Nat.lt_of_lt_of_le h.rl hb.size, fun i k hi hk => (World.cell?_of_block (w := w) (a := ⟨r, _, none⟩) (hb.block r h.rl (Ne.symm h.ne))).trans (h.cell i k hi hk),
    fun o => (World.frozen?_of_block (w := w) (a := ⟨r, o, none⟩) (hb.block r h.rl (Ne.symm h.ne))).trans (h.frz o), h.n1, h.n2, hf, hc⟩
end
theorem But_setCells (b : Nat) : ∀ (vs : List Value) (o : Nat) (w : World), Kit.But b w (w.setCells b o vs)
  | [], _, w => Kit.But.refl b w
  | v :: r, o, w => ((Kit.But.refl b w).set_ o v).trans (But_setCells b r (o + 1) _)
theorem LkRaw.put {w : World} {g r n fr c : Nat} {ring : Nat → Mg} {mark : Int} {ended : Bool} (h : LkRaw w g r n fr c ring mark ended) (m : Mg) (j : Nat) (hj : j < n) :
    LkRaw (w.setCells r (j * 7) m.vals.toList) g r n fr c (fun i => if i = j then m else ring i) mark ended := by
  have hb := But_setCells r m.vals.toList (j * 7) w
  refine ⟨hb.blk h.blk h.ne, h.ne, Nat.lt_of_lt_of_le h.rl hb.size, fun i k hi hk => ?_, fun o => (World.frozen?_setCells r _ _ _ _).trans (h.frz o), h.n1, h.n2, h.f1, h.c1⟩
  by_cases e : i = j
  · subst e
    rw [if_pos rfl]
    have hl : k < m.vals.toList.length := hk
    rw [World.cell?_setCells_in r m.vals.toList (i * 7) w (fun k hk => by
      have hk7 : k < 7 := hk
      rw [h.cell i k hi hk7]
      have : k < (ring i).vals.size := hk7
      simp [this]) k hl]
    have : k < m.vals.size := hk
    simp [this]
  · rw [if_neg e]
    rw [World.cell?_setCells_out r m.vals.toList (j * 7) w _ (fun _ _ => by
      show i * 7 + k < j * 7 ∨ j * 7 + 7 ≤ i * 7 + k
      omega)]
    exact h.cell i k hi hk
theorem below_drewN {B : Nat} {a w : World} (h : Below B a w) (n : Nat) : Below B a (w.drewN n) := ⟨h.os, h.tape, h.output, h.size, h.block⟩
def MV (m : Mg) : Obj := .cells #[.int .i64 m.kind, .int .i64 m.time, .int .i64 m.cls, .int .u8 m.high, .int .i64 m.bank, .int .i64 m.place, .int .u8 m.value] 33 (0, 0)

theorem made_calls {w : World} {g r n fr c : Nat} {ring : Nat → Mg} {mark : Int} {ended : Bool} (h : LkRaw w g r n fr c ring mark ended) :
    Calls Try.prog 82 #[.pointer (some ⟨g, 0, none⟩)] w fun e w' => e = .returned (.bool true) ∧ w = w' := by
  have a0 : w.cell? ⟨g, 0, none⟩ = some (.slice (some ⟨r, 0, none⟩) n n) := Kit.cell h.blk 0 _ rfl
  have n1 := h.n1
  have d1 : decide (0 < n) = true := decide_eq_true h.n1
  have d2 : decide ((0 : Int) < n) = true := decide_eq_true (by have := h.n1; omega)
  clear h
  go_enter Try.func82, Try.ntmps82
  go_wp2_with fail
  go_ret
  exact ⟨rfl, rfl⟩
theorem len_calls {w : World} {g r n fr c : Nat} {ring : Nat → Mg} {mark : Int} {ended : Bool} (h : LkRaw w g r n fr c ring mark ended) :
    Calls Try.prog 16 #[.pointer (some ⟨g, 0, none⟩)] w fun e w' => e = .returned (.int .i64 c) ∧ w = w' := by
  have a2 : w.cell? ⟨g, 2, none⟩ = some (.int .i64 c) := Kit.cell h.blk 2 _ rfl
  have H := Lib.hid h; clear h
  go_enter Try.func16, Try.ntmps16
  go_wp2_with fail
  refine (made_calls H.out).mono ?_; rintro e w' ⟨rfl, rfl⟩
  go_wp2_with fail
  go_ret
  exact ⟨rfl, rfl⟩
theorem mark_calls {w : World} {g r n fr c : Nat} {ring : Nat → Mg} {mark : Int} {ended : Bool} (h : LkRaw w g r n fr c ring mark ended) :
    Calls Try.prog 81 #[.pointer (some ⟨g, 0, none⟩)] w fun e w' => e = .returned (.int .i64 mark) ∧ w = w' := by
  have a2 : w.cell? ⟨g, 3, none⟩ = some (.int .i64 mark) := Kit.cell h.blk 3 _ rfl
  have H := Lib.hid h; clear h
  go_enter Try.func81, Try.ntmps81
  go_wp2_with fail
  refine (made_calls H.out).mono ?_; rintro e w' ⟨rfl, rfl⟩
  go_wp2_with fail
  go_ret
  exact ⟨rfl, rfl⟩
theorem ended_calls {w : World} {g r n fr c : Nat} {ring : Nat → Mg} {mark : Int} {ended : Bool} (h : LkRaw w g r n fr c ring mark ended) :
    Calls Try.prog 80 #[.pointer (some ⟨g, 0, none⟩)] w fun e w' => e = .returned (.bool ended) ∧ w = w' := by
  have a2 : w.cell? ⟨g, 4, none⟩ = some (.bool ended) := Kit.cell h.blk 4 _ rfl
  have H := Lib.hid h; clear h
  go_enter Try.func80, Try.ntmps80
  go_wp2_with fail
  refine (made_calls H.out).mono ?_; rintro e w' ⟨rfl, rfl⟩
  go_wp2_with fail
  go_ret
  exact ⟨rfl, rfl⟩
theorem room_calls {w : World} {g r n fr c : Nat} {ring : Nat → Mg} {mark : Int} {ended : Bool} (h : LkRaw w g r n fr c ring mark ended) :
    Calls Try.prog 20 #[.pointer (some ⟨g, 0, none⟩)] w fun e w' => e = .returned (.int .i64 (n - c)) ∧ Below w.heap.size w w' := by
  have a0 : w.cell? ⟨g, 0, none⟩ = some (.slice (some ⟨r, 0, none⟩) n n) := Kit.cell h.blk 0 _ rfl
  have a2 : w.cell? ⟨g, 2, none⟩ = some (.int .i64 c) := Kit.cell h.blk 2 _ rfl
  have n1 := h.n1; have n2 := h.n2; have c1 := h.c1
  have H := Lib.hid h; clear h
  go_enter Try.func20, Try.ntmps20
  go_wp2_with fail
  refine (made_calls H.out).mono ?_; rintro e w' ⟨rfl, rfl⟩
  go_wp2_with fail
  go_region
  go_wp2_with fail
  go_ret
  exact ⟨rfl, by go_grown⟩

set_option maxRecDepth 100000 in
theorem send_ok {w : World} {g r n fr c : Nat} {ring : Nat → Mg} {mark : Int} (m : Mg) (h : LkRaw w g r n fr c ring mark false) (hk : chk m = true) (hm : mark ≤ m.time) (hc : c < n) :
    Calls Try.prog 17 #[.pointer (some ⟨g, 0, none⟩), m.val] w fun e w' => e = .returned (.int .i64 0) ∧ LkRaw w' g r n fr (c + 1) (fun i => if i = (fr + c) % n then m else ring i) m.time (m.kind == 5) ∧ But2 g r w w' := by
  have hck := check_calls m
  rw [show chkE m = 0 by simp [chkE, hk]] at hck
  have HC := Lib.hid hck; clear hck hk
  have H := Lib.hid h
  have n1 := h.n1; have n2 := h.n2; have f1 := h.f1; have gl := h.gl; have rl := h.rl
  clear h
  unfold Mg.val Mg.vals at *
  go_enter Try.func17, Try.ntmps17
  go_wp2_with fail
  have B0 := Lib.hid (Kit.blk1 w (MV m)); have Z0 := Lib.hid (Kit.below1 w (MV m)); unfold MV at B0 Z0
  have H1 := Lib.hid (H.out.kept Z0.out)
  refine (made_calls H1.out).mono ?_; rintro e w' ⟨rfl, rfl⟩
  go_wp2_with fail
  refine (HC.out _).mono ?_; rintro e W ⟨rfl, hb⟩
  have B1 := Lib.hid (Kit.kept hb B0.out)
  have H2 := Lib.hid (H1.out.kept hb)
  have Z1 := Lib.hid (Kit.then_ Z0.out hb); clear hb
  have a0 : W.cell? ⟨g, 0, none⟩ = some (.slice (some ⟨r, 0, none⟩) n n) := Kit.cell H2.out.blk 0 _ rfl
  have a1 : W.cell? ⟨g, 1, none⟩ = some (.int .i64 fr) := Kit.cell H2.out.blk 1 _ rfl
  have a2 : W.cell? ⟨g, 2, none⟩ = some (.int .i64 c) := Kit.cell H2.out.blk 2 _ rfl
  have a3 : W.cell? ⟨g, 3, none⟩ = some (.int .i64 mark) := Kit.cell H2.out.blk 3 _ rfl
  have a4 : W.cell? ⟨g, 4, none⟩ = some (.bool false) := Kit.cell H2.out.blk 4 _ rfl
  have b0 : W.cell? ⟨w.heap.size, 0, none⟩ = some (.int .i64 m.kind) := Kit.cell B1.out 0 _ rfl
  have b1 : W.cell? ⟨w.heap.size, 1, none⟩ = some (.int .i64 m.time) := Kit.cell B1.out 1 _ rfl
  have b2 : W.cell? ⟨w.heap.size, 2, none⟩ = some (.int .i64 m.cls) := Kit.cell B1.out 2 _ rfl
  have b3 : W.cell? ⟨w.heap.size, 3, none⟩ = some (.int .u8 m.high) := Kit.cell B1.out 3 _ rfl
  have b4 : W.cell? ⟨w.heap.size, 4, none⟩ = some (.int .i64 m.bank) := Kit.cell B1.out 4 _ rfl
  have b5 : W.cell? ⟨w.heap.size, 5, none⟩ = some (.int .i64 m.place) := Kit.cell B1.out 5 _ rfl
  have b6 : W.cell? ⟨w.heap.size, 6, none⟩ = some (.int .u8 m.value) := Kit.cell B1.out 6 _ rfl
  have d1 : decide (m.time < mark) = false := decide_eq_false (by omega)
  have d2 : ((c : Int) == n) = false := beq_eq_false_iff_ne.2 (by omega)
  go_wp2_with fail
  go_quiet (fail)
  go_wp2_with fail
  go_quiet (fail)
  go_wp2_with fail
  have hj : ((fr : Int) + c) % n = ((fr + c) % n : Nat) := by simp
  have hjn : (fr + c) % n < n := Nat.mod_lt _ (by omega)
  generalize hjj : (fr + c) % n = j at *
  have HJ := Lib.hid hjj; clear hjj
  have dn : ((n : Int) == 0) = false := beq_eq_false_iff_ne.2 (by omega)
  generalize hW2 : World.drewN (World.drewN W _) _ = W2
  have H3 : Hid (LkRaw W2 g r n fr c ring mark false) := by rw [← hW2]; exact H2.out.kept (below_drewN (below_drewN (Below.refl _ _) _) _)
  have B2 : Hid (W2.heap[w.heap.size]? = some (MV m)) := by rw [← hW2]; exact B1.out
  have Z2 : Hid (Below w.heap.size w W2) := by rw [← hW2]; exact below_drewN (below_drewN Z1.out _) _
  have y0 := fun d os => cell_regrown (w := W2) (a := ⟨g, 0, none⟩) (v := .slice (some ⟨r, 0, none⟩) n n) (by rw [← hW2]; exact a0) d os
  have y1 := fun d os => cell_regrown (w := W2) (a := ⟨g, 1, none⟩) (v := .int .i64 fr) (by rw [← hW2]; exact a1) d os
  have y2 := fun d os => cell_regrown (w := W2) (a := ⟨g, 2, none⟩) (v := .int .i64 c) (by rw [← hW2]; exact a2) d os
  have x0 := fun d os => cell_regrown (w := W2) (a := ⟨w.heap.size, 0, none⟩) (v := .int .i64 m.kind) (by rw [← hW2]; exact b0) d os
  have x1 := fun d os => cell_regrown (w := W2) (a := ⟨w.heap.size, 1, none⟩) (v := .int .i64 m.time) (by rw [← hW2]; exact b1) d os
  have x2 := fun d os => cell_regrown (w := W2) (a := ⟨w.heap.size, 2, none⟩) (v := .int .i64 m.cls) (by rw [← hW2]; exact b2) d os
  have x3 := fun d os => cell_regrown (w := W2) (a := ⟨w.heap.size, 3, none⟩) (v := .int .u8 m.high) (by rw [← hW2]; exact b3) d os
  have x4 := fun d os => cell_regrown (w := W2) (a := ⟨w.heap.size, 4, none⟩) (v := .int .i64 m.bank) (by rw [← hW2]; exact b4) d os
  have x5 := fun d os => cell_regrown (w := W2) (a := ⟨w.heap.size, 5, none⟩) (v := .int .i64 m.place) (by rw [← hW2]; exact b5) d os
  have x6 := fun d os => cell_regrown (w := W2) (a := ⟨w.heap.size, 6, none⟩) (v := .int .u8 m.value) (by rw [← hW2]; exact b6) d os
  clear hW2 a0 a1 a2 a3 a4 b0 b1 b2 b3 b4 b5 b6
  refine Kit.region_quiet_tail 21 (by kernel_rfl) (by kernel_rfl) ?_
  simp only [List.take_succ_cons, List.take_zero, List.drop_succ_cons, List.drop_zero]
  repeat (go_big_quiet_step (fail))
  refine wpQuiet_nil ?_
  intro _ hw'
  obtain ⟨⟨dq, osq⟩, hw''⟩ := hw'
  subst hw''
  have hbb := below_regrown W2 dq osq
  generalize Sort.grow (redrawn W2 dq) osq = w1 at *
  clear y0 y1 y2 x0 x1 x2 x3 x4 x5 x6 H2 B1 Z1
  have H4 := Lib.hid (H3.out.kept hbb)
  have B4 := Lib.hid (Kit.kept hbb B2.out)
  have Z4 := Lib.hid (Kit.then_ Z2.out hbb); clear hbb H3 B2 Z2
  have e0 : w1.cell? ⟨r, j * 7, none⟩ = some (.int .i64 (ring j).kind) := H4.out.cell j 0 hjn (by decide)
  have e1 : w1.cell? ⟨r, j * 7 + 1, none⟩ = some (.int .i64 (ring j).time) := H4.out.cell j 1 hjn (by decide)
  have e2 : w1.cell? ⟨r, j * 7 + 2, none⟩ = some (.int .i64 (ring j).cls) := H4.out.cell j 2 hjn (by decide)
  have e3 : w1.cell? ⟨r, j * 7 + 3, none⟩ = some (.int .u8 (ring j).high) := H4.out.cell j 3 hjn (by decide)
  have e4 : w1.cell? ⟨r, j * 7 + 4, none⟩ = some (.int .i64 (ring j).bank) := H4.out.cell j 4 hjn (by decide)
  have e5 : w1.cell? ⟨r, j * 7 + 5, none⟩ = some (.int .i64 (ring j).place) := H4.out.cell j 5 hjn (by decide)
  have e6 : w1.cell? ⟨r, j * 7 + 6, none⟩ = some (.int .u8 (ring j).value) := H4.out.cell j 6 hjn (by decide)
  have ef := H4.out.frz
  go_upto_region 13 with (fail)
  clear e0 e1 e2 e3 e4 e5 e6 ef
  generalize hW : World.setCell _ ⟨r, j * 7 + 6, none⟩ _ = w2
  replace hW : w1.setCells r (j * 7) m.vals.toList = w2 := hW
  have hb2 := But_setCells r m.vals.toList (j * 7) w1
  have H5 := Lib.hid (H4.out.put m j hjn)
  rw [hW] at hb2 H5
  have hrS : r < w.heap.size := rl
  have B5 := Lib.hid (hb2.blk B4.out (by omega))
  have R5 : Hid (Kit.But r w1 w2) := hb2
  clear hW hb2
  have a2 : w2.cell? ⟨g, 2, none⟩ = some (.int .i64 c) := Kit.cell H5.out.blk 2 _ rfl
  have ff := fun o => Kit.frz H5.out.blk o
  go_upto_region 14 with (fail)
  rw [show ((c : Int) + 1) = ((c + 1 : Nat) : Int) by simp]
  generalize hW : World.setCell _ ⟨g, 2, none⟩ _ = w3
  have g3 : Hid (w3.heap[g]? = some (.cells #[.slice (some ⟨r, 0, none⟩) n n, .int .i64 fr, .int .i64 (c + 1 : Nat), .int .i64 mark, .bool false] 128 (0, 0))) := by rw [← hW]; exact Kit.set_ H5.out.blk 2 _ rfl
  have R6 : Hid (Kit.But g w2 w3) := by rw [← hW]; exact (Kit.But.refl g w2).set_ 2 _
  clear hW a2 ff
  have H6 := Lib.hid (H5.out.turn R6.out g3.out f1 (by omega))
  have B6 := Lib.hid (R6.out.blk B5.out (by omega))
  clear g3 H5 B5
  have b0 : w3.cell? ⟨w.heap.size, 0, none⟩ = some (.int .i64 m.kind) := Kit.cell B6.out 0 _ rfl
  have b1 : w3.cell? ⟨w.heap.size, 1, none⟩ = some (.int .i64 m.time) := Kit.cell B6.out 1 _ rfl
  have a3 : w3.cell? ⟨g, 3, none⟩ = some (.int .i64 mark) := Kit.cell H6.out.blk 3 _ rfl
  have a4 : w3.cell? ⟨g, 4, none⟩ = some (.bool false) := Kit.cell H6.out.blk 4 _ rfl
  have ff := fun o => Kit.frz H6.out.blk o
  have hne : w.heap.size ≠ g := by omega
  have hne2 : g ≠ w.heap.size := by omega
  go_region
  clear b0 b1 a3 a4
  go_wp2_with fail
  go_ret
  refine ⟨rfl, ?_, ?_⟩
  · rw [HJ.out]
    exact (H6.out.turn (((Kit.But.refl g w3).set_ 3 _).set_ 4 _) (Kit.set_ (Kit.set_ H6.out.blk 3 (.int .i64 m.time) rfl) 4 (.bool (m.kind == 5)) rfl) f1 (by omega)).turn ((Kit.But.refl g _).drew) (Kit.set_ (Kit.set_ H6.out.blk 3 (.int .i64 m.time) rfl) 4 (.bool (m.kind == 5)) rfl) f1 (by omega)
  · exact (But2.of_below (Z4.out.mono (Nat.le_refl _))).trans ((But2.of_right R5.out).trans ((But2.of_left R6.out).trans (But2.of_left (((Kit.But.refl g w3).set_ 3 _).set_ 4 _).drew)))
end Go.Proofs.YthbbbmomlehimaaR.Lk
