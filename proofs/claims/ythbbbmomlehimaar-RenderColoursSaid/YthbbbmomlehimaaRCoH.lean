import Derived.Test.YthbbbmomlehimaaRCoG
import Derived.Test.YthbbbmomlehimaaRKitB
set_option linter.unusedVariables false
namespace Go.Proofs.YthbbbmomlehimaaR.Ts
open Go.RowKit

instance : Inhabited Rq := ⟨⟨0, 0, 0, 0⟩⟩
/-- A list of requests in memory. -/
def ReqsAt (w : World) (A : Option Addr) (n : Nat) (qs : List Rq) : Prop :=
  qs.length = n ∧ (0 < n → ∃ b off, A = some ⟨b, off, none⟩ ∧ b < w.heap.size ∧ ∀ i, i < n →
    w.cell? ⟨b, off + i * 4, none⟩ = some (.int .i64 (qs.getD i default).kind) ∧ w.cell? ⟨b, off + i * 4 + 1, none⟩ = some (.int .u16 (qs.getD i default).addr) ∧
    w.cell? ⟨b, off + i * 4 + 2, none⟩ = some (.int .u8 (qs.getD i default).value) ∧ w.cell? ⟨b, off + i * 4 + 3, none⟩ = some (.int .i64 (qs.getD i default).len))
def BoolsAt (w : World) (A : Option Addr) (n : Nat) (bs : List Bool) : Prop :=
  bs.length = n ∧ (0 < n → ∃ b off, A = some ⟨b, off, none⟩ ∧ b < w.heap.size ∧ ∀ i, i < n → w.cell? ⟨b, off + i, none⟩ = some (.bool (bs.getD i false)))
theorem ReqsAt.below {w w' : World} {A : Option Addr} {n : Nat} {qs : List Rq} (h : ReqsAt w A n qs) (hb : Below w.heap.size w w') : ReqsAt w' A n qs := by
  refine ⟨h.1, fun hn => ?_⟩
  obtain ⟨b, off, e, hlt, hc⟩ := h.2 hn
  refine ⟨b, off, e, Nat.lt_of_lt_of_le hlt hb.size, fun i hi => ?_⟩
  obtain ⟨c0, c1, c2, c3⟩ := hc i hi
  exact ⟨(hb.cell (p := ⟨b, _, none⟩) hlt).trans c0, (hb.cell (p := ⟨b, _, none⟩) hlt).trans c1, (hb.cell (p := ⟨b, _, none⟩) hlt).trans c2, (hb.cell (p := ⟨b, _, none⟩) hlt).trans c3⟩
theorem BoolsAt.below {w w' : World} {A : Option Addr} {n : Nat} {bs : List Bool} (h : BoolsAt w A n bs) (hb : Below w.heap.size w w') : BoolsAt w' A n bs := by
  refine ⟨h.1, fun hn => ?_⟩
  obtain ⟨b, off, e, hlt, hc⟩ := h.2 hn
  exact ⟨b, off, e, Nat.lt_of_lt_of_le hlt hb.size, fun i hi => (hb.cell (p := ⟨b, _, none⟩) hlt).trans (hc i hi)⟩

def pairs (qs : List Rq) (bs : List Bool) (k : Nat) : List (Rq × Bool) := (List.range k).map fun i => (qs.getD i default, bs.getD i false)
theorem pairs_succ (qs : List Rq) (bs : List Bool) (k : Nat) : pairs qs bs (k + 1) = pairs qs bs k ++ [(qs.getD k default, bs.getD k false)] := by
  simp [pairs, List.range_succ]
theorem pairs_length (qs : List Rq) (bs : List Bool) (k : Nat) : (pairs qs bs k).length = k := by simp [pairs]
def AllOk (qs : List Rq) : Prop := ∀ i, i < qs.length → (qs.getD i default).okB = true ∧ 0 ≤ (qs.getD i default).addr ∧ (qs.getD i default).addr < 65536
theorem pairs_ok {qs : List Rq} (h : AllOk qs) (bs : List Bool) {k : Nat} (hk : k ≤ qs.length) : ∀ x ∈ pairs qs bs k, x.1.okB = true := by
  intro x hx
  obtain ⟨i, hi, rfl⟩ := List.mem_map.1 hx
  exact (h i (by have := List.mem_range.1 hi; omega)).1

theorem info2 : (Try.prog.info? 2).map (fun i => (i.zero, i.size, i.bytes)) = some (some (.int .i64 0), 1, 8) := by kernel_rfl

set_option maxHeartbeats 8000000 in
set_option maxRecDepth 100000 in
theorem row_calls (s : Scr) (qs : List Rq) (bs : List Bool) (A B : Option Addr) (n c m c2 : Nat) (t : Int) (w : World) (h : s.ok = true) (hq : ReqsAt w A n qs) (hs : BoolsAt w B m bs) (hok : AllOk qs)
    (h1 : 0 ≤ t) (hn : n ≤ 40) (hm : m ≤ 40) (h2 : t + 1120 ≤ 1099511626776) :
    Calls Try.prog 26 #[s.val, .slice A n c, .slice B m c2, .int .i64 t] w fun e w' => ∃ v, e = .returned (.tuple #[v, .int .i64 (s.run (pairs qs bs n) t).2, .int .i64 0]) ∧
      w'.ownsRow (w.heap.size + 1) 2 1 v n ((s.run (pairs qs bs n) t).1.map (Value.int .i64)) ∧ Below w.heap.size w w' := by
  obtain ⟨i0, hi, hz0, hz1, hz2⟩ := info_parts info2
  have HI := Lib.hid hi; have HZ0 := Lib.hid hz0; have HZ1 := Lib.hid hz1; have HZ2 := Lib.hid hz2; clear hi hz0 hz1 hz2
  have HQ := Lib.hid hq; have HS := Lib.hid hs; have HOK := Lib.hid hok; have HH := Lib.hid h; clear hq hs hok h
  unfold Scr.val
  go_enter Try.func26, Try.ntmps26
  go_wp2_with fail
  go_loopw [8, 9, 17] (fun v en i wr => ∃ k : Nat, k ≤ n ∧ i = .int .i64 k ∧ en = .int .i64 (s.run (pairs qs bs k) t).2 ∧ wr.ownsRow (w.heap.size + 1) 2 1 v k ((s.run (pairs qs bs k) t).1.map (Value.int .i64)) ∧
      Below w.heap.size w wr ∧ wr.heap[w.heap.size]? = some (.cells s.vals 40 (0, 0))) (fun _ _ i _ => n - (intOf i).toNat)
  case atStart => exact ⟨0, Nat.zero_le _, rfl, rfl, World.ownsRow_nil _ _ _ _, Kit.below1 _ _, Kit.blk1 _ _⟩
  case round =>
    obtain ⟨k, hk, rfl, rfl, hown, hb, hbox⟩ := hrel
    have HOWN := Lib.hid hown; have HB := Lib.hid hb; have HBOX := Lib.hid hbox; clear hown hb hbox
    by_cases hlt : k < n
    · obtain ⟨b, off, rfl, hblt, hc⟩ := HQ.out.2 (by omega)
      obtain ⟨c0, c1, c2_, c3⟩ := hc k hlt
      have c0 := (HB.out.cell (p := ⟨b, _, none⟩) hblt).trans c0
      have c1 := (HB.out.cell (p := ⟨b, _, none⟩) hblt).trans c1
      have c2_ := (HB.out.cell (p := ⟨b, _, none⟩) hblt).trans c2_
      have c3 := (HB.out.cell (p := ⟨b, _, none⟩) hblt).trans c3
      have okq := HOK.out k (by have := HQ.out.1; omega)
      have hblt' : b < wr.heap.size := Nat.lt_of_lt_of_le hblt HB.out.size
      have hT := s.run_le (pairs qs bs k) (pairs_ok HOK.out bs (by have := HQ.out.1; omega)) t
      rw [pairs_length] at hT
      obtain ⟨hT1, hT2⟩ := hT
      clear hc
      generalize hqk : qs.getD k default = q at *
      have HQK := Lib.hid hqk; clear hqk
      generalize hTT : (s.run (pairs qs bs k) t).2 = T at *
      have HTT := Lib.hid hTT; clear hTT
      have x0 : wr.cell? ⟨w.heap.size, 0, none⟩ = some (.int .i64 s.lines) := Kit.cell HBOX.out 0 _ rfl
      have x1 : wr.cell? ⟨w.heap.size, 1, none⟩ = some (.int .i64 s.columns) := Kit.cell HBOX.out 1 _ rfl
      have x2 : wr.cell? ⟨w.heap.size, 2, none⟩ = some (.int .i64 s.top) := Kit.cell HBOX.out 2 _ rfl
      have x3 : wr.cell? ⟨w.heap.size, 3, none⟩ = some (.int .i64 s.rows) := Kit.cell HBOX.out 3 _ rfl
      have x4 : wr.cell? ⟨w.heap.size, 4, none⟩ = some (.int .i64 s.left) := Kit.cell HBOX.out 4 _ rfl
      have x5 : wr.cell? ⟨w.heap.size, 5, none⟩ = some (.int .i64 s.wide) := Kit.cell HBOX.out 5 _ rfl
      have x6 : wr.cell? ⟨w.heap.size, 6, none⟩ = some (.int .i64 s.pulse) := Kit.cell HBOX.out 6 _ rfl
      have hzl := Kit.lt HBOX.out
      by_cases hsl : k < m
      · -- the flag is read
        obtain ⟨b2, off2, rfl, hb2, hcs⟩ := HS.out.2 (by omega)
        have s0 : wr.cell? ⟨b2, off2 + k, none⟩ = some (.bool (bs.getD k false)) := (HB.out.cell (p := ⟨b2, off2 + k, none⟩) hb2).trans (hcs k hsl)
        have hb2' : b2 < wr.heap.size := Nat.lt_of_lt_of_le hb2 HB.out.size
        clear hcs
        generalize hfl : bs.getD k false = fl at *
        have HFL := Lib.hid hfl; clear hfl
        have ds : decide (k < m) = true := decide_eq_true hsl
        go_wp2_with fail
        generalize hW : wr.alloc (.cells #[.int .i64 q.kind, .int .u16 q.addr, .int .u8 q.value, .int .i64 q.len] 46) = W
        have hBW : Below wr.heap.size wr W := by rw [← hW]; exact Kit.below1 _ _
        have hQW : W.heap[wr.heap.size]? = some (.cells q.vals 46 (0, 0)) := by rw [← hW]; exact Kit.blk1 _ _
        have hlW := Kit.lt hQW
        have hXW := Kit.kept hBW HBOX.out
        clear hW
        have y0 := fun d os => cell_regrown (Kit.cell hXW 0 _ rfl : W.cell? ⟨w.heap.size, 0, none⟩ = some (.int .i64 s.lines)) d os
        have y1 := fun d os => cell_regrown (Kit.cell hXW 1 _ rfl : W.cell? ⟨w.heap.size, 1, none⟩ = some (.int .i64 s.columns)) d os
        have y2 := fun d os => cell_regrown (Kit.cell hXW 2 _ rfl : W.cell? ⟨w.heap.size, 2, none⟩ = some (.int .i64 s.top)) d os
        have y3 := fun d os => cell_regrown (Kit.cell hXW 3 _ rfl : W.cell? ⟨w.heap.size, 3, none⟩ = some (.int .i64 s.rows)) d os
        have y4 := fun d os => cell_regrown (Kit.cell hXW 4 _ rfl : W.cell? ⟨w.heap.size, 4, none⟩ = some (.int .i64 s.left)) d os
        have y5 := fun d os => cell_regrown (Kit.cell hXW 5 _ rfl : W.cell? ⟨w.heap.size, 5, none⟩ = some (.int .i64 s.wide)) d os
        have y6 := fun d os => cell_regrown (Kit.cell hXW 6 _ rfl : W.cell? ⟨w.heap.size, 6, none⟩ = some (.int .i64 s.pulse)) d os
        have v0 := fun d os => cell_regrown (Kit.cell hQW 0 _ rfl : W.cell? ⟨wr.heap.size, 0, none⟩ = some (.int .i64 q.kind)) d os
        have v1 := fun d os => cell_regrown (Kit.cell hQW 1 _ rfl : W.cell? ⟨wr.heap.size, 1, none⟩ = some (.int .u16 q.addr)) d os
        have v2 := fun d os => cell_regrown (Kit.cell hQW 2 _ rfl : W.cell? ⟨wr.heap.size, 2, none⟩ = some (.int .u8 q.value)) d os
        have v3 := fun d os => cell_regrown (Kit.cell hQW 3 _ rfl : W.cell? ⟨wr.heap.size, 3, none⟩ = some (.int .i64 q.len)) d os
        have s1 := fun d os => cell_regrown ((hBW.cell (p := ⟨b2, off2 + k, none⟩) hb2').trans s0 : W.cell? ⟨b2, off2 + k, none⟩ = some (.bool fl)) d os
        refine wp_region_quiet_below (by kernel_rfl) (by kernel_rfl) ?_
        repeat (go_big_quiet_step ((exact Calls.regrown_of (request_calls s q T HH.out okq.1 okq.2.1 okq.2.2 (by omega) (by omega) fl _))))
        refine wpQuiet_nil ?_
        intro _ hw'
        obtain ⟨⟨dq, osq⟩, hw''⟩ := hw'
        subst hw''
        have hbb := below_regrown W dq osq
        generalize Sort.grow (redrawn W dq) osq = w1 at *
        clear y0 y1 y2 y3 y4 y5 y6 v0 v1 v2 v3 s1 s0
        have hown1 := Kit.own_below HOWN.out (Kit.then_ hBW hbb)
        have hB1 : Below w.heap.size w w1 := HB.out.trans (Kit.then_ hBW hbb |>.mono HB.out.size)
        have hX1 := Kit.kept hbb hXW
        have hsz1 := hB1.size
        have hbx := Kit.lt hX1
        clear hbb hXW hQW hBW HOWN HB HBOX
        have HOWN1 := Lib.hid hown1; have HB1 := Lib.hid hB1; have HX1 := Lib.hid hX1; clear hown1 hB1 hX1
        go_wp2_with ((at_builtin; refine wpList_append_own _ rfl _ _ 47 rfl (w.heap.size + 1) 2 i0 (.int .i64 0) 1 8 Try.underlying47 HI.out HZ0.out HZ1.out HZ2.out rfl (by decide) _ _ _ rfl (HOWN1.out.alloc _) ⟨w1.heap.size, 0, none⟩ 1 1 [.int .i64 (s.req q fl T).1] rfl rfl ?c1 ?c2 ?c3 ?c4 ?c5 ?_))
        case c1 => exact World.news_of_block (t := 2) (fr := (0, 0)) (heap_alloc_new w1 _)
        case c2 => intro u hu; simp at hu; subst hu; rfl
        case c3 => simp [maxLen]; omega
        case c4 => omega
        case c5 => simp; omega
        intro v' w2 hown2 hgrow _
        have hB2 : Below w.heap.size w w2 := Kit.grown_below (HB1.out.alloc hsz1 _) (HOWN1.out.alloc _) hgrow (by simp; omega) (by omega)
        have hX2 := Kit.grown_blk (Kit.blk_old HX1.out _) hgrow (Kit.own_ne HOWN1.out (by omega))
        have hsz2 := hB2.size
        clear hgrow HOWN1 HB1 HX1
        have HO := Lib.hid hown2; have HB2 := Lib.hid hB2; have HX2 := Lib.hid hX2; clear hown2 hB2 hX2
        go_wp2_with fail
        go_roundw
        case rel =>
          refine ⟨k + 1, by omega, by go_num, ?_, ?_, HB2.out, HX2.out⟩
          · rw [pairs_succ, s.run_snoc, HQK.out, HFL.out, HTT.out]
          · rw [pairs_succ, s.run_snoc, HQK.out, HFL.out, HTT.out, List.map_append]; exact HO.out
        case measure => simp [intOf]; omega
      · -- the flag is none
        have hfl : bs.getD k false = false := by
          have hl := HS.out.1
          simp [List.getD, List.getElem?_eq_none (show bs.length ≤ k by omega)]
        have HFL := Lib.hid hfl; clear hfl
        have ds : decide (k < m) = false := decide_eq_false hsl
        go_wp2_with fail
        generalize hW : wr.alloc (.cells #[.int .i64 q.kind, .int .u16 q.addr, .int .u8 q.value, .int .i64 q.len] 46) = W
        have hBW : Below wr.heap.size wr W := by rw [← hW]; exact Kit.below1 _ _
        have hQW : W.heap[wr.heap.size]? = some (.cells q.vals 46 (0, 0)) := by rw [← hW]; exact Kit.blk1 _ _
        have hlW := Kit.lt hQW
        have hXW := Kit.kept hBW HBOX.out
        clear hW
        have y0 := fun d os => cell_regrown (Kit.cell hXW 0 _ rfl : W.cell? ⟨w.heap.size, 0, none⟩ = some (.int .i64 s.lines)) d os
        have y1 := fun d os => cell_regrown (Kit.cell hXW 1 _ rfl : W.cell? ⟨w.heap.size, 1, none⟩ = some (.int .i64 s.columns)) d os
        have y2 := fun d os => cell_regrown (Kit.cell hXW 2 _ rfl : W.cell? ⟨w.heap.size, 2, none⟩ = some (.int .i64 s.top)) d os
        have y3 := fun d os => cell_regrown (Kit.cell hXW 3 _ rfl : W.cell? ⟨w.heap.size, 3, none⟩ = some (.int .i64 s.rows)) d os
        have y4 := fun d os => cell_regrown (Kit.cell hXW 4 _ rfl : W.cell? ⟨w.heap.size, 4, none⟩ = some (.int .i64 s.left)) d os
        have y5 := fun d os => cell_regrown (Kit.cell hXW 5 _ rfl : W.cell? ⟨w.heap.size, 5, none⟩ = some (.int .i64 s.wide)) d os
        have y6 := fun d os => cell_regrown (Kit.cell hXW 6 _ rfl : W.cell? ⟨w.heap.size, 6, none⟩ = some (.int .i64 s.pulse)) d os
        have v0 := fun d os => cell_regrown (Kit.cell hQW 0 _ rfl : W.cell? ⟨wr.heap.size, 0, none⟩ = some (.int .i64 q.kind)) d os
        have v1 := fun d os => cell_regrown (Kit.cell hQW 1 _ rfl : W.cell? ⟨wr.heap.size, 1, none⟩ = some (.int .u16 q.addr)) d os
        have v2 := fun d os => cell_regrown (Kit.cell hQW 2 _ rfl : W.cell? ⟨wr.heap.size, 2, none⟩ = some (.int .u8 q.value)) d os
        have v3 := fun d os => cell_regrown (Kit.cell hQW 3 _ rfl : W.cell? ⟨wr.heap.size, 3, none⟩ = some (.int .i64 q.len)) d os
        refine wp_region_quiet_below (by kernel_rfl) (by kernel_rfl) ?_
        repeat (go_big_quiet_step ((exact Calls.regrown_of (request_calls s q T HH.out okq.1 okq.2.1 okq.2.2 (by omega) (by omega) false _))))
        refine wpQuiet_nil ?_
        intro _ hw'
        obtain ⟨⟨dq, osq⟩, hw''⟩ := hw'
        subst hw''
        have hbb := below_regrown W dq osq
        generalize Sort.grow (redrawn W dq) osq = w1 at *
        clear y0 y1 y2 y3 y4 y5 y6 v0 v1 v2 v3 
        have hown1 := Kit.own_below HOWN.out (Kit.then_ hBW hbb)
        have hB1 : Below w.heap.size w w1 := HB.out.trans (Kit.then_ hBW hbb |>.mono HB.out.size)
        have hX1 := Kit.kept hbb hXW
        have hsz1 := hB1.size
        have hbx := Kit.lt hX1
        clear hbb hXW hQW hBW HOWN HB HBOX
        have HOWN1 := Lib.hid hown1; have HB1 := Lib.hid hB1; have HX1 := Lib.hid hX1; clear hown1 hB1 hX1
        go_wp2_with ((at_builtin; refine wpList_append_own _ rfl _ _ 47 rfl (w.heap.size + 1) 2 i0 (.int .i64 0) 1 8 Try.underlying47 HI.out HZ0.out HZ1.out HZ2.out rfl (by decide) _ _ _ rfl (HOWN1.out.alloc _) ⟨w1.heap.size, 0, none⟩ 1 1 [.int .i64 (s.req q false T).1] rfl rfl ?c1 ?c2 ?c3 ?c4 ?c5 ?_))
        case c1 => exact World.news_of_block (t := 2) (fr := (0, 0)) (heap_alloc_new w1 _)
        case c2 => intro u hu; simp at hu; subst hu; rfl
        case c3 => simp [maxLen]; omega
        case c4 => omega
        case c5 => simp; omega
        intro v' w2 hown2 hgrow _
        have hB2 : Below w.heap.size w w2 := Kit.grown_below (HB1.out.alloc hsz1 _) (HOWN1.out.alloc _) hgrow (by simp; omega) (by omega)
        have hX2 := Kit.grown_blk (Kit.blk_old HX1.out _) hgrow (Kit.own_ne HOWN1.out (by omega))
        have hsz2 := hB2.size
        clear hgrow HOWN1 HB1 HX1
        have HO := Lib.hid hown2; have HB2 := Lib.hid hB2; have HX2 := Lib.hid hX2; clear hown2 hB2 hX2
        go_wp2_with fail
        go_roundw
        case rel =>
          refine ⟨k + 1, by omega, by go_num, ?_, ?_, HB2.out, HX2.out⟩
          · rw [pairs_succ, s.run_snoc, HQK.out, HFL.out, HTT.out]
          · rw [pairs_succ, s.run_snoc, HQK.out, HFL.out, HTT.out, List.map_append]; exact HO.out
        case measure => simp [intOf]; omega
    · obtain rfl : k = n := by omega
      go_wp2_with fail
      go_ret3
      exact ⟨_, rfl, HOWN.out, HB.out⟩
end Go.Proofs.YthbbbmomlehimaaR.Ts
