import Derived.Test.YthbbbmomlehimaaROcG
import Derived.Laws.AppendOwnNone
set_option linter.unusedVariables false
namespace Go.Proofs.YthbbbmomlehimaaR.Oc
open Go.RowKit

/-- A slice that is nil has no room. -/
def NilFit (A : Option Addr) (c : Nat) : Prop := A = none → c = 0
theorem news_of {A : Option Addr} {n : Nat} {l : List Int} {w : World} {a : Addr} (hb : BytesAt w A n l) (e : A = some a) : ∀ j u, (u8s l)[j]? = some u → w.cell? (a.add j) = some u := by
  subst e
  intro j u hu
  obtain ⟨hj, rfl⟩ := u8s_get hu
  obtain ⟨b, off, e, _, hc⟩ := hb.2 (by have := hb.1; omega)
  obtain rfl := Option.some.inj e
  have hx := hc j (by have := hb.1; omega)
  have ha : (⟨b, off, none⟩ : Addr).add j = ⟨b, off + j, none⟩ := by unfold Addr.add; split <;> simp_all
  rw [ha]; exact hx

set_option maxRecDepth 100000 in
theorem own_calls (A : Option Addr) (n c : Nat) (l : List Int) (w : World) (hb : BytesAt w A n l) (hn : n ≤ 140737488351232) (hc : NilFit A c) :
    Calls Try.prog 49 #[.slice A n c] w fun e w' => ∃ v, e = .returned v ∧ w'.ownsRow w.heap.size 5 1 v n (u8s l) ∧ Below w.heap.size w w' := by
  obtain ⟨i0, hi, hz0, hz1, hz2⟩ := info_parts info5
  have HI := Lib.hid hi; have HZ0 := Lib.hid hz0; have HZ1 := Lib.hid hz1; have HZ2 := Lib.hid hz2; clear hi hz0 hz1 hz2
  cases A with
  | none =>
    have hn0 : n = 0 := by
      rcases Nat.eq_zero_or_pos n with h | h
      · exact h
      · obtain ⟨b, off, e, _⟩ := hb.2 h; cases e
    subst hn0
    obtain rfl : c = 0 := hc rfl
    obtain rfl : l = [] := List.length_eq_zero_iff.1 hb.1
    clear hb hc
    have HO : Hid ((w.alloc (.cells #[] 5 (0, 0))).ownsRow w.heap.size 5 1 (.slice (some ⟨w.heap.size, 0, none⟩) 0 0) 0 []) := World.ownsRow_made w #[] 0 (Nat.le_refl _) (Nat.zero_le _) rfl
    go_enter Try.func49, Try.ntmps49
    go_wp2_with ((at_builtin; refine wpList_append_own_none rfl _ _ 68 rfl w.heap.size 5 i0 1 Try.underlying68 HI.out _ _ _ rfl HO.out rfl ?_))
    go_wp2_with fail
    go_ret
    exact ⟨_, rfl, HO.out, Kit.below1 _ _⟩
  | some a =>
    have hnews := news_of hb rfl
    have hlen := hb.1
    have HN := Lib.hid hnews; have HL := Lib.hid hlen; clear hnews hlen hb
    go_enter Try.func49, Try.ntmps49
    go_wp2_with ((at_builtin; refine wpList_append_own _ rfl _ _ 68 rfl w.heap.size 5 i0 (.int .u8 0) 1 1 Try.underlying68 HI.out HZ0.out HZ1.out HZ2.out rfl (by decide) _ _ _ rfl (World.ownsRow_made w #[] 0 (Nat.le_refl _) (Nat.zero_le _) rfl) a n c (u8s l) rfl ?c0 ?c1 ?c2 ?c3 ?c4 ?c5 ?_))
    case c0 => rw [Nat.mul_one]; simp [u8s]; exact HL.out
    case c1 => intro j u hu; exact ((Kit.below1 w _).cell (World.block_lt_of_cell? w _ (HN.out j u hu))).trans (HN.out j u hu)
    case c2 => exact u8s_one l
    case c3 => simp [maxLen]; omega
    case c4 => omega
    case c5 => simp
    intro v' w' hown hg _
    have hb := Kit.grown_below (Kit.below1 w _) (World.ownsRow_made (size := 1) w #[] 0 (Nat.le_refl w.heap.size) (Nat.zero_le _) rfl) hg (by simp) (Nat.le_refl _)
    have HO := Lib.hid hown; have HB := Lib.hid hb; clear hown hb hg
    go_wp2_with fail
    go_ret
    exact ⟨_, rfl, HO.out, HB.out⟩

/-- The document's reader: what is left, and its error. -/
def RfAt (w : World) (g : Nat) (l : List Int) (err : Int) : Prop :=
  ∃ A n c, w.heap[g]? = some (.cells #[.slice A n c, .int .i64 err] 197 (0, 0)) ∧ BytesAt w A n l ∧ n ≤ c ∧ n ≤ 140737488351232 ∧ ∀ b ∈ l, 0 ≤ b ∧ b < 256
theorem RfAt.below {w w' : World} {g : Nat} {l : List Int} {err : Int} (h : RfAt w g l err) (hb : Below w.heap.size w w') : RfAt w' g l err := by
  obtain ⟨A, n, c, h1, h2, h3⟩ := h
  exact ⟨A, n, c, Kit.kept hb h1, h2.below hb, h3⟩
theorem RfAt.lt {w : World} {g : Nat} {l : List Int} {err : Int} (h : RfAt w g l err) : g < w.heap.size := by
  obtain ⟨_, _, _, h1, _⟩ := h; exact Kit.lt h1
theorem RfAt.bytes {w : World} {g : Nat} {l : List Int} {err : Int} (h : RfAt w g l err) : ∀ b ∈ l, 0 ≤ b ∧ b < 256 := by
  obtain ⟨_, _, _, _, _, _, _, hl⟩ := h; exact hl

set_option maxRecDepth 100000 in
theorem rnew_calls (A : Option Addr) (n c : Nat) (l : List Int) (w : World) (hb : BytesAt w A n l) (hn : n ≤ 140737488351232) (hc : NilFit A c) (hl : ∀ b ∈ l, 0 ≤ b ∧ b < 256) :
    Calls Try.prog 114 #[.slice A n c] w fun e w' => ∃ g, e = .returned (.pointer (some ⟨g, 0, none⟩)) ∧ w.heap.size ≤ g ∧ RfAt w' g l 0 ∧ Below w.heap.size w w' := by
  obtain ⟨i0, hi, hz0, hz1, hz2⟩ := info_parts info5
  have HI := Lib.hid hi; have HZ0 := Lib.hid hz0; have HZ1 := Lib.hid hz1; have HZ2 := Lib.hid hz2; clear hi hz0 hz1 hz2
  have HLB := Lib.hid hl; clear hl
  have fin : ∀ (v : Value) (w1 : World), w1.ownsRow w.heap.size 5 1 v n (u8s l) → Below w.heap.size w w1 → RfAt (w1.alloc (.cells #[v, .int .i64 0] 197 (0, 0))) w1.heap.size l 0 ∧ Below w.heap.size w (w1.alloc (.cells #[v, .int .i64 0] 197 (0, 0))) := fun v w1 ho hb => by
    obtain ⟨A1, c1, rfl, hc1, hba⟩ := BytesAt.of_own ho
    exact ⟨⟨A1, n, c1, Kit.blk1 _ _, hba.below (Kit.below1 _ _), hc1, hn, HLB.out⟩, hb.alloc hb.size _⟩
  have FIN := Lib.hid fin; clear fin
  cases A with
  | none =>
    have hn0 : n = 0 := by
      rcases Nat.eq_zero_or_pos n with h | h
      · exact h
      · obtain ⟨b, off, e, _⟩ := hb.2 h; cases e
    subst hn0
    obtain rfl : c = 0 := hc rfl
    obtain rfl : l = [] := List.length_eq_zero_iff.1 hb.1
    clear hb hc
    have HO : Hid ((w.alloc (.cells #[] 5 (0, 0))).ownsRow w.heap.size 5 1 (.slice (some ⟨w.heap.size, 0, none⟩) 0 0) 0 []) := World.ownsRow_made w #[] 0 (Nat.le_refl _) (Nat.zero_le _) rfl
    have HF := FIN.out _ _ HO.out (Kit.below1 _ _)
    simp at HF
    have HFF := Lib.hid HF; clear HF
    go_enter Try.func114, Try.ntmps114
    go_wp2_with ((at_builtin; refine wpList_append_own_none rfl _ _ 68 rfl w.heap.size 5 i0 1 Try.underlying68 HI.out _ _ _ rfl HO.out rfl ?_))
    go_wp2_with fail
    go_ret
    exact ⟨_, rfl, by omega, HFF.out.1, HFF.out.2⟩
  | some a =>
    have hnews := news_of hb rfl
    have hlen := hb.1
    have HN := Lib.hid hnews; have HL := Lib.hid hlen; clear hnews hlen hb
    go_enter Try.func114, Try.ntmps114
    go_wp2_with ((at_builtin; refine wpList_append_own _ rfl _ _ 68 rfl w.heap.size 5 i0 (.int .u8 0) 1 1 Try.underlying68 HI.out HZ0.out HZ1.out HZ2.out rfl (by decide) _ _ _ rfl (World.ownsRow_made w #[] 0 (Nat.le_refl _) (Nat.zero_le _) rfl) a n c (u8s l) rfl ?c0 ?c1 ?c2 ?c3 ?c4 ?c5 ?_))
    case c0 => rw [Nat.mul_one]; simp [u8s]; exact HL.out
    case c1 => intro j u hu; exact ((Kit.below1 w _).cell (World.block_lt_of_cell? w _ (HN.out j u hu))).trans (HN.out j u hu)
    case c2 => exact u8s_one l
    case c3 => simp [maxLen]; omega
    case c4 => omega
    case c5 => simp
    intro v' w' hown hg _
    have hb := Kit.grown_below (Kit.below1 w _) (World.ownsRow_made (size := 1) w #[] 0 (Nat.le_refl w.heap.size) (Nat.zero_le _) rfl) hg (by simp) (Nat.le_refl _)
    have HF := Lib.hid (FIN.out _ _ hown hb)
    have hsz := hb.size
    obtain ⟨A1, c1, rfl, _, _⟩ := BytesAt.of_own hown
    clear hown hb hg
    go_wp2_with fail
    go_ret
    exact ⟨_, rfl, hsz, HF.out.1, HF.out.2⟩
end Go.Proofs.YthbbbmomlehimaaR.Oc
