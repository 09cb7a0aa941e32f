import Derived.Test.YthbbbmomlehimaaRRgC
import Derived.Test.YthbbbmomlehimaaRRgD
import Derived.Test.YthbbbmomlehimaaRRgE
import Derived.Test.YthbbbmomlehimaaRRhB
import Derived.Test.YthbbbmomlehimaaRRfE
import Derived.Test.YthbbbmomlehimaaRTsK
import Derived.Test.YthbbbmomlehimaaRTsJ
import Derived.Laws.BytesArg
set_option linter.unusedVariables false
namespace Go.Proofs.YthbbbmomlehimaaR.Ts
open Go.RowKit Oc

def Scr.inB (s : Scr) (t : Int) : Bool := s.ok && mayB t
def Scr.spotV (s : Scr) (t : Int) : Spt := if s.inB t then s.spot t else ⟨0, 0, 0⟩
def Scr.spotE (s : Scr) (t : Int) : Int := if s.inB t then 0 else 2
theorem Scr.inB_yes {s : Scr} {t : Int} (h : s.inB t = true) : s.ok = true ∧ 0 ≤ t ∧ t ≤ 1099511627776 := by
  simp only [Scr.inB, mayB, Bool.and_eq_true, decide_eq_true_eq] at h; exact h
theorem Scr.inB_no {s : Scr} {t : Int} (h : s.inB t = false) : s.ok = false ∨ t < 0 ∨ 1099511627776 < t := by
  cases ho : s.ok
  · exact .inl rfl
  refine .inr ?_
  rcases Int.lt_or_le t 0 with h1 | h1
  · exact .inl h1
  · rcases Int.lt_or_le 1099511627776 t with h2 | h2
    · exact .inr h2
    · simp [Scr.inB, mayB, ho, h1, h2] at h
theorem spot_all (s : Scr) (t : Int) (w : World) :
    Calls Try.prog 41 #[s.val, .int .i64 t] w fun e w' => e = .returned (.tuple #[(s.spotV t).val, .int .i64 (s.spotE t)]) ∧ Below w.heap.size w w' := by
  cases h : s.inB t
  · rw [Scr.spotV, Scr.spotE, h]; exact spot_no s t (Scr.inB_no h) w
  · obtain ⟨h1, h2, h3⟩ := Scr.inB_yes h
    rw [Scr.spotV, Scr.spotE, h]; exact spot_yes s t h1 h2 h3 w
theorem rspot_all (s : Scr) (t : Int) (w : World) :
    Calls Try.prog 44 #[s.val, .int .i64 t] w fun e w' => e = .returned (.tuple #[(s.spotV t).val, .int .i64 (s.spotE t)]) ∧ Below w.heap.size w w' := by
  cases h : s.inB t
  · rw [Scr.spotV, Scr.spotE, h]; exact rspot_no s t (Scr.inB_no h) w
  · obtain ⟨h1, h2, h3⟩ := Scr.inB_yes h
    rw [Scr.spotV, Scr.spotE, h]; exact rspot_yes s t h1 h2 h3 w
def Scr.timeV (s : Scr) (p : Spt) : Int := if s.timeB p then s.at_ p else 0
def Scr.timeE (s : Scr) (p : Spt) : Int := if s.timeB p then 0 else 2
theorem time_all (s : Scr) (p : Spt) (w : World) :
    Calls Try.prog 40 #[s.val, p.val] w fun e w' => e = .returned (.tuple #[.int .i64 (s.timeV p), .int .i64 (s.timeE p)]) ∧ Below w.heap.size w w' := by
  cases h : s.timeB p
  · rw [Scr.timeV, Scr.timeE, h]; exact time_calls_no s p h w
  · rw [Scr.timeV, Scr.timeE, h]; exact time_calls_yes s p h w
theorem rtime_all (s : Scr) (p : Spt) (w : World) :
    Calls Try.prog 45 #[s.val, p.val] w fun e w' => e = .returned (.tuple #[.int .i64 (s.timeV p), .int .i64 (s.timeE p)]) ∧ Below w.heap.size w w' := by
  cases h : s.timeB p
  · rw [Scr.timeV, Scr.timeE, h]; exact rtime_calls_no s p h w
  · rw [Scr.timeV, Scr.timeE, h]; exact rtime_calls_yes s p h w
def Scr.bys (s : Scr) : List Int := if s.ok then encs s.nums else []
theorem bytes_all (s : Scr) (w : World) :
    Calls Try.prog 38 #[s.val] w fun e w' => ∃ v, e = .returned (.tuple #[v, .int .i64 s.code]) ∧ w'.ownsRow w.heap.size 5 1 v s.bys.length (u8s s.bys) ∧ Below w.heap.size w w' := by
  cases h : s.ok
  · rw [Scr.bys, h, Scr.code_no h]; exact (bytes_no s w h).mono fun e w' ⟨h1, h2⟩ => ⟨_, h1, World.ownsRow_nil _ _ _ _, h2⟩
  · rw [Scr.bys, h, Scr.code_yes h]; exact bytes_calls s w h
theorem rbytes_all (s : Scr) (w : World) :
    Calls Try.prog 48 #[s.val] w fun e w' => ∃ v, e = .returned (.tuple #[v, .int .i64 s.code]) ∧ w'.ownsRow w.heap.size 5 1 v s.bys.length (u8s s.bys) ∧ Below w.heap.size w w' := by
  cases h : s.ok
  · rw [Scr.bys, h, Scr.code_no h]; exact (rbytes_no s w h).mono fun e w' ⟨h1, h2⟩ => ⟨_, h1, World.ownsRow_nil _ _ _ _, h2⟩
  · rw [Scr.bys, h, Scr.code_yes h]; exact rbytes_calls s w h
def readS (l : List Int) : Scr := if readOk l then Scr.read l else ⟨0, 0, 0, 0, 0, 0, 0⟩
def readC (l : List Int) : Int := if readOk l then 0 else 4
theorem readVal_eq (l : List Int) : readVal l = #[(readS l).val, .int .i64 (readC l)] := by
  unfold readVal readS readC
  split <;> rfl
theorem conv_bytes {w : World} {A : Option Addr} {n c : Nat} {l : List Int} (h : BytesAt w A n l) : (convert 68 9 (.slice A n c)).run Try.prog w = .ok (.string (strOfNums l)) w := by
  rcases Nat.eq_zero_or_pos n with h0 | h0
  · subst h0
    have hl : l = [] := List.length_eq_zero_iff.1 h.1
    subst hl
    cases A with
    | none => exact run_convert_bytes_nil w 68 5 Try.underlying68 Try.underlying5 _ _ 9 Try.underlying9
    | some a =>
      rw [run_convert_bytes_string w 68 9 5 _ _ _ Try.underlying68 Try.underlying5 Try.underlying9, run_bytesToString w a 0 c [] (by rfl)]
      rfl
  · obtain ⟨b, off, rfl, _, hc⟩ := h.2 h0
    exact run_convert_bytes_arg w 68 5 Try.underlying68 Try.underlying5 b off n c l h.1 hc 9 Try.underlying9
theorem conv_regrown {w : World} {A : Option Addr} {n c : Nat} {l : List Int} (h : BytesAt w A n l) (d : Nat) (os : Array Obj) : (convert 68 9 (.slice A n c)).run Try.prog (Sort.grow (redrawn w d) os) = .ok (.string (strOfNums l)) (Sort.grow (redrawn w d) os) :=
  conv_bytes (h.below (below_regrown w d os))
end Go.Proofs.YthbbbmomlehimaaR.Ts
