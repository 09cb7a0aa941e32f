import Derived.Test.YthbbbmomlehimaaRCoD
import Derived.Test.YthbbbmomlehimaaRCoE
set_option linter.unusedVariables false
namespace Go.Proofs.YthbbbmomlehimaaR.Ts
open Go.RowKit

def Scr.req (s : Scr) (q : Rq) (slow : Bool) (t : Int) : Int × Int :=
  if q.kind = 6 then (t, t + q.len) else if q.kind = 4 ∨ q.kind = 5 then s.io slow (q.addr % 2 == 0) t else if slow then (s.go_ t, s.go_ t + q.len) else (t, t + q.len)

theorem request_calls (s : Scr) (q : Rq) (t : Int) (h : s.ok = true) (hq : q.okB = true) (a1 : 0 ≤ q.addr) (a2 : q.addr < 65536) (h1 : 0 ≤ t) (h2 : t ≤ 1099511626776) (slow : Bool) (w : World) :
    Calls Try.prog 28 #[s.val, q.val, .bool slow, .int .i64 t] w fun e w' => e = .returned (.tuple #[.int .i64 (s.req q slow t).1, .int .i64 (s.req q slow t).2, .int .i64 0]) ∧ Below w.heap.size w w' := by
  have hs := Rq.shape hq
  have hst := step_ok q hq
  clear hq
  by_cases e6 : q.kind = 6
  · have e : s.req q slow t = (t, t + q.len) := by simp [Scr.req, e6]
    rw [e]
    exact req_idle s q t h hst h1 h2 w slow e6 (by omega) (by omega)
  have k6 : (q.kind == 6) = false := by simpa using e6
  by_cases e4 : q.kind = 4
  · have e : s.req q slow t = s.io slow (q.addr % 2 == 0) t := by simp [Scr.req, e4]
    rw [e]
    have k4 : (q.kind == 4) = true := by simpa using e4
    cases slow <;> cases he : (q.addr % 2 == 0)
    · exact req_io4_false_false s q t h hst h1 h2 w k6 k4 a1 a2 he
    · exact req_io4_false_true s q t h hst h1 h2 w k6 k4 a1 a2 he
    · exact req_io4_true_false s q t h hst h1 h2 w k6 k4 a1 a2 he
    · exact req_io4_true_true s q t h hst h1 h2 w k6 k4 a1 a2 he
  have k4 : (q.kind == 4) = false := by simpa using e4
  by_cases e5 : q.kind = 5
  · have e : s.req q slow t = s.io slow (q.addr % 2 == 0) t := by simp [Scr.req, e5]
    rw [e]
    have k5 : (q.kind == 5) = true := by simpa using e5
    cases slow <;> cases he : (q.addr % 2 == 0)
    · exact req_io5_false_false s q t h hst h1 h2 w k6 k4 k5 a1 a2 he
    · exact req_io5_false_true s q t h hst h1 h2 w k6 k4 k5 a1 a2 he
    · exact req_io5_true_false s q t h hst h1 h2 w k6 k4 k5 a1 a2 he
    · exact req_io5_true_true s q t h hst h1 h2 w k6 k4 k5 a1 a2 he
  have k5 : (q.kind == 5) = false := by simpa using e5
  cases slow
  · have e : s.req q false t = (t, t + q.len) := by simp [Scr.req, e6, e4, e5]
    rw [e]
    exact req_fast s q t h hst h1 h2 w k6 k4 k5 (by omega) (by omega)
  · have e : s.req q true t = (s.go_ t, s.go_ t + q.len) := by simp [Scr.req, e6, e4, e5]
    rw [e]
    exact req_slow s q t h hst h1 h2 w k6 k4 k5 (by omega) (by omega)

theorem Scr.req_le (s : Scr) {q : Rq} (hq : q.okB = true) (slow : Bool) (t : Int) : t ≤ (s.req q slow t).1 ∧ (s.req q slow t).1 < (s.req q slow t).2 ∧ (s.req q slow t).2 ≤ t + 28 := by
  have hs := Rq.shape hq
  unfold Scr.req
  split
  · simp only; omega
  split
  · cases slow <;> cases (q.addr % 2 == 0) <;> simp only [Scr.io]
    · omega
    · have h1 := s.go_le (t + 1); omega
    · have h1 := s.go_le t; have h2 := s.go_le (s.go_ t + 1); have h3 := s.go_le (s.go_ (s.go_ t + 1) + 1); have h4 := s.go_le (s.go_ (s.go_ (s.go_ t + 1) + 1) + 1); omega
    · have h1 := s.go_le t; have h2 := s.go_le (s.go_ t + 1); omega
  split
  · have h1 := s.go_le t; simp only; omega
  · simp only; omega

/-- What a row's requests come to, one behind the other. -/
def Scr.run (s : Scr) : List (Rq × Bool) → Int → List Int × Int
  | [], t => ([], t)
  | (q, b) :: r, t => ((s.req q b t).1 :: (s.run r (s.req q b t).2).1, (s.run r (s.req q b t).2).2)
theorem Scr.run_snoc (s : Scr) (l : List (Rq × Bool)) (q : Rq) (b : Bool) (t : Int) :
    s.run (l ++ [(q, b)]) t = ((s.run l t).1 ++ [(s.req q b (s.run l t).2).1], (s.req q b (s.run l t).2).2) := by
  induction l generalizing t with
  | nil => simp [Scr.run]
  | cons x r ih => obtain ⟨p, c⟩ := x; simp [Scr.run, ih]
theorem Scr.run_length (s : Scr) (l : List (Rq × Bool)) (t : Int) : (s.run l t).1.length = l.length := by
  induction l generalizing t with
  | nil => simp [Scr.run]
  | cons x r ih => obtain ⟨p, c⟩ := x; simp [Scr.run, ih]
theorem Scr.run_le (s : Scr) (l : List (Rq × Bool)) (hl : ∀ x ∈ l, x.1.okB = true) (t : Int) : t ≤ (s.run l t).2 ∧ (s.run l t).2 ≤ t + 28 * l.length := by
  induction l generalizing t with
  | nil => simp [Scr.run]
  | cons x r ih =>
    obtain ⟨p, c⟩ := x
    have h1 := s.req_le (hl (p, c) (by simp)) c t
    have h2 := ih (fun x hx => hl x (by simp [hx])) (s.req p c t).2
    simp only [Scr.run, List.length_cons] at *
    omega
end Go.Proofs.YthbbbmomlehimaaR.Ts
