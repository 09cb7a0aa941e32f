import Derived.Test.YthbbbmomlehimaaRLkH
import Derived.Test.YthbbbmomlehimaaRCoH
import Derived.Maps.AppendAt
set_option linter.unusedVariables false
namespace Go.Proofs.YthbbbmomlehimaaR.Lk
open Go.RowKit Ts

/-- What Send leaves. -/
def Sent (w w' : World) (g r n fr c : Nat) (ring : Nat → Mg) (mark : Int) (ended : Bool) (m : Mg) (x : Int) : Prop :=
  (x = 0 ∧ c < n ∧ mark ≤ m.time ∧ ended = false ∧ LkRaw w' g r n fr (c + 1) (fun i => if i = (fr + c) % n then m else ring i) m.time (m.kind == 5) ∧ But2 g r w w') ∨ (x ≠ 0 ∧ Below w.heap.size w w')
theorem send_all {w : World} {g r n fr c : Nat} {ring : Nat → Mg} {mark : Int} {ended : Bool} (m : Mg) (h : LkRaw w g r n fr c ring mark ended) :
    Calls Try.prog 17 #[.pointer (some ⟨g, 0, none⟩), m.val] w fun e w' => ∃ x : Int, e = .returned (.int .i64 x) ∧ Sent w w' g r n fr c ring mark ended m x := by
  cases hk : chk m
  · exact (send_bad m h hk).mono fun e w' ⟨h1, h2⟩ => ⟨2, h1, .inr ⟨by decide, h2⟩⟩
  cases he : ended
  case true => subst he; exact (send_ended m h hk).mono fun e w' ⟨h1, h2⟩ => ⟨10, h1, .inr ⟨by decide, h2⟩⟩
  subst he
  rcases Int.lt_or_le m.time mark with ht | ht
  · exact (send_late m h hk ht).mono fun e w' ⟨h1, h2⟩ => ⟨8, h1, .inr ⟨by decide, h2⟩⟩
  by_cases hc : c = n
  · exact (send_full m h hk ht hc).mono fun e w' ⟨h1, h2⟩ => ⟨9, h1, .inr ⟨by decide, h2⟩⟩
  have hlt : c < n := by have := h.c1; omega
  exact (send_ok m h hk ht hlt).mono fun e w' ⟨h1, h2, h3⟩ => ⟨0, h1, .inl ⟨rfl, hlt, ht, rfl, h2, h3⟩⟩

def Inv (W0 w : World) (B g r n : Nat) (vi vo : Value) (i : Nat) : Prop :=
  ∃ L k fr c ring mark ended, St W0 w B g r n vi vo L k fr c ring mark ended ∧ L.length ≤ i
theorem Inv.start {W0 w : World} {g r n : Nat} (hl : LkRaw w g r n 0 0 (fun _ => zmg) 0 false) (h : Below W0.heap.size W0 w) (hg : W0.heap.size ≤ g) (hr : W0.heap.size ≤ r) :
    Inv W0 w w.heap.size g r n (.slice none 0 0) (.slice none 0 0) 0 :=
  ⟨[], 0, 0, 0, _, 0, false, ⟨hl, h, hg, hr, hl.gl, hl.rl, Nat.le_refl _, World.ownsRow_nil _ _ _ _, World.ownsRow_nil _ _ _ _, fun b hb => by simp [Value.ownBlock] at hb, Nat.le_refl _, rfl, fun m hm => by simp at hm⟩, Nat.le_refl _⟩
theorem MsgsAt.take_ {w : World} {A : Option Addr} {n : Nat} {l : List Mg} (h : MsgsAt w A n l) (k : Nat) (hk : k ≤ n) : MsgsAt w A k (l.take k) := by
  refine ⟨by rw [List.length_take, h.1]; omega, fun hn => ?_⟩
  obtain ⟨b, off, e, hlt, hc⟩ := h.2 (by omega)
  refine ⟨b, off, e, hlt, fun i j hi hj => ?_⟩
  rw [hc i j (by omega) hj]
  simp [List.getD, hi]
theorem MsgsAt.drop_ {w : World} {A : Option Addr} {n : Nat} {l : List Mg} (h : MsgsAt w A n l) (k : Nat) (hk : k < n) : MsgsAt w (A.map (·.add (k * 7))) (n - k) (l.drop k) := by
  refine ⟨by rw [List.length_drop, h.1], fun hn => ?_⟩
  obtain ⟨b, off, rfl, hlt, hc⟩ := h.2 (by omega)
  refine ⟨b, off + k * 7, ?_, hlt, fun i j hi hj => ?_⟩
  · simp [Addr.add]
  · rw [show off + k * 7 + i * 7 + j = off + (k + i) * 7 + j by omega, hc (k + i) j (by omega) hj]
    simp [List.getD, List.getElem?_drop]
theorem MsgsAt.none_ {w : World} {A : Option Addr} {l : List Mg} (h : l.length = 0) : MsgsAt w A 0 l := ⟨h, fun h => absurd h (by omega)⟩
set_option maxRecDepth 100000 in
theorem order_long (room : Int) (A B2 : Option Addr) (N c0 M c1 : Nat) (w : World) (hN : 100 < N) :
    Calls Try.prog 3 #[.int .i64 room, .slice A N c0, .slice B2 M c1] w fun e w' => e = .returned (.bool true) ∧ Below w.heap.size w w' := by
  have d1 : decide ((100 : Int) < N) = true := decide_eq_true (by omega)
  go_enter Try.func3, Try.ntmps3
  go_wp2_with fail
  refine (lives_calls _).mono ?_; rintro e w1 ⟨rfl, hb⟩
  have HB := Lib.hid hb; clear hb
  go_wp2_with fail
  go_ret
  exact ⟨rfl, HB.out⟩
end Go.Proofs.YthbbbmomlehimaaR.Lk
