import Derived.Test.YthbbbmomlehimaaROcA
import Derived.Lib.SliceRun
set_option linter.unusedVariables false
namespace Go.Proofs.YthbbbmomlehimaaR.Oc
open Go.RowKit

/-- Bytes in memory. -/
def BytesAt (w : World) (A : Option Addr) (n : Nat) (l : List Int) : Prop :=
  l.length = n ∧ (0 < n → ∃ b off, A = some ⟨b, off, none⟩ ∧ b < w.heap.size ∧ ∀ i, i < n → w.cell? ⟨b, off + i, none⟩ = some (.int .u8 (l.getD i 0)))
theorem BytesAt.below {w w' : World} {A : Option Addr} {n : Nat} {l : List Int} (h : BytesAt w A n l) (hb : Below w.heap.size w w') : BytesAt w' A n l := by
  refine ⟨h.1, fun hn => ?_⟩
  obtain ⟨b, off, e, hlt, hc⟩ := h.2 hn
  exact ⟨b, off, e, Nat.lt_of_lt_of_le hlt hb.size, fun i hi => (hb.cell (p := ⟨b, _, none⟩) hlt).trans (hc i hi)⟩
def u8s (l : List Int) : List Value := l.map (Value.int .u8)
theorem u8s_get {l : List Int} {j : Nat} {u : Value} (h : (u8s l)[j]? = some u) : j < l.length ∧ u = .int .u8 (l.getD j 0) := by
  unfold u8s at h
  rw [List.getElem?_map] at h
  have hj : j < l.length := by
    rcases Nat.lt_or_ge j l.length with hj | hj
    · exact hj
    · simp [List.getElem?_eq_none hj] at h
  refine ⟨hj, ?_⟩
  simp [List.getElem?_eq_getElem hj] at h
  simp [List.getD, List.getElem?_eq_getElem hj, h]
theorem u8s_one (l : List Int) : ∀ u ∈ u8s l, u.oneCell' = true := by
  intro u hu
  obtain ⟨x, _, rfl⟩ := List.mem_map.1 hu
  rfl
theorem BytesAt.of_own {w : World} {base n : Nat} {v : Value} {l : List Int} (h : w.ownsRow base 5 1 v n (u8s l)) : ∃ A c, v = .slice A n c ∧ n ≤ c ∧ BytesAt w A n l := by
  have hl : l.length = n := by have := h.1; simpa [u8s] using this
  rcases h.2 with ⟨rfl, rfl⟩ | ⟨g, cap, cur, rfl, hb, hg, hn, hm, hs, ht⟩
  · exact ⟨_, _, rfl, Nat.le_refl _, hl, fun h => by omega⟩
  · refine ⟨_, _, rfl, hn, hl, fun _ => ⟨g, 0, rfl, Kit.lt hg, fun i hi => ?_⟩⟩
    rw [Nat.zero_add, cell_of_row w g i cur 5 (0, 0) hg]
    have e : (u8s l)[i]? = some (.int .u8 (l.getD i 0)) := by
      simp [u8s, List.getD, List.getElem?_eq_getElem (show i < l.length by omega)]
    rw [← ht, List.getElem?_take] at e
    split at e
    · simpa using e
    · cases e
theorem info5 : (Try.prog.info? 5).map (fun i => (i.zero, i.size, i.bytes)) = some (some (.int .u8 0), 1, 1) := by kernel_rfl

theorem clone_calls (A : Option Addr) (n c : Nat) (l : List Int) (w : World) (hb : BytesAt w A n l) (hn : n ≤ 140737488351232) :
    Calls Try.prog 140 #[.slice A n c] w fun e w' => ∃ v, e = .returned v ∧ w'.ownsRow w.heap.size 5 1 v n (u8s l) ∧ Below w.heap.size w w' := by
  obtain ⟨i0, hi, hz0, hz1, hz2⟩ := info_parts info5
  have HI := Lib.hid hi; have HZ0 := Lib.hid hz0; have HZ1 := Lib.hid hz1; have HZ2 := Lib.hid hz2; clear hi hz0 hz1 hz2
  have qT : ∀ (w : World) (a : Option Addr) (n c n' c' : Nat), (binOp .eql 68 (.slice a n c) (.slice none n' c')).run Try.prog w = .ok (.bool a.isNone) w := fun w a n c n' c' => Lib.run_eql_slice_nil w _ _ a n c n' c' Try.underlying68
  cases A with
  | none =>
    have hn0 : n = 0 := by
      rcases Nat.eq_zero_or_pos n with h | h
      · exact h
      · obtain ⟨b, off, e, _⟩ := hb.2 h; cases e
    subst hn0
    have hl0 : l = [] := List.length_eq_zero_iff.1 hb.1
    subst hl0
    clear hb
    go_enter Try.func140, Try.ntmps140
    go_wp2_with fail
    go_ret
    exact ⟨_, rfl, World.ownsRow_nil _ _ _ _, Below.refl _ _⟩
  | some a =>
    have hnews : ∀ j u, (u8s l)[j]? = some u → w.cell? (a.add j) = some u := by
      intro j u hu
      obtain ⟨hj, rfl⟩ := u8s_get hu
      obtain ⟨b, off, e, _, hc⟩ := hb.2 (by have := hb.1; omega)
      obtain rfl := Option.some.inj e
      have hx := hc j (by have := hb.1; omega)
      have ha : (⟨b, off, none⟩ : Addr).add j = ⟨b, off + j, none⟩ := by unfold Addr.add; split <;> simp_all
      rw [ha]; exact hx
    have hlen := hb.1
    have HN := Lib.hid hnews; have HL := Lib.hid hlen; clear hnews hlen hb
    go_enter Try.func140, Try.ntmps140
    go_wp2_with ((at_builtin; refine wpList_append_own _ rfl _ _ 68 rfl w.heap.size 5 i0 (.int .u8 0) 1 1 Try.underlying68 HI.out HZ0.out HZ1.out HZ2.out rfl (by decide) _ _ _ rfl (World.ownsRow_made w #[] 0 (Nat.le_refl _) (Nat.zero_le _) rfl) a n c (u8s l) rfl ?c0 ?c1 ?c2 ?c3 ?c4 ?c5 ?_))
    case c0 => rw [Nat.mul_one]; simp [u8s]; exact HL.out
    case c1 => intro j u hu; exact ((Kit.below1 w _).cell (World.block_lt_of_cell? w _ (HN.out j u hu))).trans (HN.out j u hu)
    case c2 => exact u8s_one l
    case c3 => simp [maxLen]; omega
    case c4 => omega
    case c5 => simp
    intro v' w' hown hg _
    have hb := Kit.grown_below (Kit.below1 w _) (World.ownsRow_made (size := 1) w #[] 0 (Nat.le_refl w.heap.size) (Nat.zero_le _) rfl) hg (by simp) (Nat.le_refl _)
    have HO := Lib.hid hown; have HB := Lib.hid hb; clear hown hb hg
    go_wp2_with fail
    go_ret
    exact ⟨_, rfl, HO.out, HB.out⟩
end Go.Proofs.YthbbbmomlehimaaR.Oc
