import Derived.Test.YthbbbmomlehimaaRLkJ
set_option linter.unusedVariables false
namespace Go.Proofs.YthbbbmomlehimaaR.Lk
open Go.RowKit Ts
theorem order_calls (room : Int) (A B2 : Option Addr) (N c0 M c1 : Nat) (ls : List Mg) (bs : List Bool) (w : World) (hl : MsgsAt w A N ls) (hb : BoolsAt w B2 M bs) (hM : M ≤ 140737488351232) :
    Calls Try.prog 3 #[.int .i64 room, .slice A N c0, .slice B2 M c1] w fun e w' => e = .returned (.bool true) ∧ Below w.heap.size w w' := by
  rcases Nat.lt_or_ge 100 N with h | h
  · exact order_long room A B2 N c0 M c1 w h
  · exact order_short room A B2 N c0 M c1 ls bs w hl hb h hM
end Go.Proofs.YthbbbmomlehimaaR.Lk
