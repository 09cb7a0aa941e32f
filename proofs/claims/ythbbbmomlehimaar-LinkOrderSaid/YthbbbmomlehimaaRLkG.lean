import Derived.Test.YthbbbmomlehimaaRLkF
set_option linter.unusedVariables false
namespace Go.Proofs.YthbbbmomlehimaaR.Lk
open Go.RowKit

/-! Plain: the queue. -/
theorem mod_far {n fr i c : Nat} (h1 : i < c) (hc : c < n) : (fr + i) % n ≠ (fr + c) % n := by
  intro h
  have h1 := Nat.sub_mod_eq_zero_of_mod_eq h.symm
  have h2 : (fr + c) - (fr + i) = c - i := by omega
  rw [h2, Nat.mod_eq_of_lt (by omega)] at h1
  omega
theorem queue_put (ring : Nat → Mg) (n fr c : Nat) (m : Mg) (hc : c < n) : queue (fun i => if i = (fr + c) % n then m else ring i) n fr (c + 1) = queue ring n fr c ++ [m] := by
  rw [queue_succ]
  congr 1
  · unfold queue
    refine List.map_congr_left fun i hi => ?_
    exact if_neg (mod_far (List.mem_range.1 hi) hc)
  · simp
theorem queue_take (ring : Nat → Mg) (n fr c : Nat) (hf : fr < n) : queue ring n fr (c + 1) = ring fr :: queue ring n ((fr + 1) % n) c := by
  unfold queue
  rw [List.range_succ_eq_map, List.map_cons, List.map_map, Nat.add_zero, Nat.mod_eq_of_lt hf]
  congr 1
  refine List.map_congr_left fun i _ => ?_
  show ring ((fr + (i + 1)) % n) = _
  rw [Nat.mod_add_mod, show fr + (i + 1) = fr + 1 + i by omega]

/-- How it stands: L was sent, k of them were taken. -/
structure St (W0 w : World) (B g r n : Nat) (vi vo : Value) (L : List Mg) (k fr c : Nat) (ring : Nat → Mg) (mark : Int) (ended : Bool) : Prop where
  lk : LkRaw w g r n fr c ring mark ended
  bel : Below W0.heap.size W0 w
  gW : W0.heap.size ≤ g
  rW : W0.heap.size ≤ r
  gB : g < B
  rB : r < B
  Bw : B ≤ w.heap.size
  oi : w.ownsRow B 33 7 vi L.length (mcells L)
  oo : w.ownsRow B 33 7 vo k (mcells (L.take k))
  ne : ∀ b, vi.ownBlock = some b → vo.ownBlock ≠ some b
  hk : k ≤ L.length
  q : queue ring n fr c = L.drop k
  last : ∀ m, L.getLast? = some m → mark = m.time ∧ ended = (m.kind == 5)
section
variable {W0 w w' : World} {B g r n : Nat} {vi vo vi' vo' : Value} {L : List Mg} {k fr c : Nat} {ring : Nat → Mg} {mark : Int} {ended : Bool}
theorem St.len (h : St W0 w B g r n vi vo L k fr c ring mark ended) : L.length = k + c := by
  have h1 := congrArg List.length h.q
  have h2 := h.hk
  simp [queue] at h1
  omega
theorem St.below (h : St W0 w B g r n vi vo L k fr c ring mark ended) (hb : Below w.heap.size w w') : St W0 w' B g r n vi vo L k fr c ring mark ended :=
  ⟨h.lk.kept hb, h.bel.trans (hb.mono h.bel.size), h.gW, h.rW, h.gB, h.rB, Nat.le_trans h.Bw hb.size, Kit.own_below h.oi hb, Kit.own_below h.oo hb, h.ne, h.hk, h.q, h.last⟩
theorem own_but2 {base : Nat} {e : TypeId} {size m : Nat} {v : Value} {xs : List Value} (h : w.ownsRow base e size v m xs) (hb : But2 g r w w') (hg : g < base) (hr : r < base) : w'.ownsRow base e size v m xs := by
  refine ⟨h.1, ?_⟩
  rcases h.2 with hn | ⟨g', cap, cur, rfl, h1, h2, rest⟩
  · exact .inl hn
  · exact .inr ⟨g', cap, cur, rfl, h1, hb.blk h2 (by omega) (by omega), rest⟩
theorem LkRaw.grown (h : LkRaw w g r n fr c ring mark ended) {row : Option Nat} (hg : w.grownBy w' row) (h1 : row ≠ some g) (h2 : row ≠ some r) : LkRaw w' g r n fr c ring mark ended :=
  ⟨(hg.block g h.gl (fun e => h1 e.symm)).trans h.blk, h.ne, Nat.lt_of_lt_of_le h.rl hg.size, fun i k hi hk => (World.cell?_of_block (w := w) (a := ⟨r, _, none⟩) (hg.block r h.rl (fun e => h2 e.symm))).trans (h.cell i k hi hk),
    fun o => (World.frozen?_of_block (w := w) (a := ⟨r, o, none⟩) (hg.block r h.rl (fun e => h2 e.symm))).trans (h.frz o), h.n1, h.n2, h.f1, h.c1⟩
/-- One more was sent, and noted. -/
theorem St.sent {w1 w2 w3 : World} {m : Mg} {o : Obj} (H : Nat) (h : St W0 w B g r n vi vo L k fr c ring mark ended) (hc : c < n)
    (hl : LkRaw w1 g r n fr (c + 1) (fun i => if i = (fr + c) % n then m else ring i) m.time (m.kind == 5)) (hb : But2 g r w w1) (hb2 : Below w1.heap.size w1 w2)
    (hown : w3.ownsRow B 33 7 vi' (L.length + 1) (mcells L ++ m.vals.toList)) (hg : (w2.alloc o).grownBy w3 vi.ownBlock) (hat : vi'.ownBlock = vi.ownBlock ∨ vi'.ownBlock = some H) (hH : (w2.alloc o).heap.size = H) :
    St W0 w3 B g r n vi' vo (L ++ [m]) k fr (c + 1) (fun i => if i = (fr + c) % n then m else ring i) m.time (m.kind == 5) := by
  have e1 : w1.ownsRow B 33 7 vi L.length (mcells L) := own_but2 h.oi hb h.gB h.rB
  have e2 : w1.ownsRow B 33 7 vo k (mcells (L.take k)) := own_but2 h.oo hb h.gB h.rB
  have hb3 : Below w1.heap.size w1 (w2.alloc o) := hb2.alloc hb2.size _
  have hl3 := hl.kept hb3
  have f1 := Kit.own_below e1 hb3
  have f2 := Kit.own_below e2 hb3
  have hB1 : Below W0.heap.size W0 w1 := But2.below h.bel hb h.gW h.rW h.bel.size
  have hB3 : Below W0.heap.size W0 (w2.alloc o) := hB1.trans (hb3.mono hB1.size)
  have Bw1 : B ≤ (w2.alloc o).heap.size := Nat.le_trans h.Bw (Nat.le_trans hb.size hb3.size)
  have n1 := Kit.own_ne f1 h.gB
  have n2 := Kit.own_ne f1 h.rB
  refine ⟨hl3.grown hg n1 n2, Kit.grown_below hB3 f1 hg hB3.size (by have := h.gW; have := h.gB; omega), h.gW, h.rW, h.gB, h.rB, Nat.le_trans Bw1 hg.size, ?_, ?_, ?_, ?_, ?_, ?_⟩
  · rw [mcells_snoc, List.length_append, List.length_singleton]; exact hown
  · have hlk := h.hk
    rw [List.take_append_of_le_length hlk]
    refine f2.kept hg ?_
    cases hv : vo.ownBlock with
    | none => exact .inl rfl
    | some b => exact .inr fun e => h.ne b e.symm hv
  · intro b hbk
    rcases hat with e | e
    · exact h.ne b (e ▸ hbk)
    · intro hv
      have hlt := (f2.lt b hv).2
      rw [e] at hbk
      have := Option.some.inj hbk
      omega
  · rw [List.length_append]; have := h.hk; omega
  · rw [queue_put ring n fr c m hc, h.q, List.drop_append_of_le_length h.hk]
  · intro x hx
    rw [List.getLast?_append] at hx
    simp at hx
    subst hx
    exact ⟨rfl, rfl⟩
/-- One was taken, and noted. -/
theorem St.taken {w1 w2 w3 : World} {o : Obj} {c' : Nat} (H : Nat) (h : St W0 w B g r n vi vo L k fr (c' + 1) ring mark ended)
    (hl : LkRaw w1 g r n ((fr + 1) % n) c' ring mark ended) (hb : Kit.But g w w1) (hb2 : Below w1.heap.size w1 w2)
    (hown : w3.ownsRow B 33 7 vo' (k + 1) (mcells (L.take k) ++ (ring fr).vals.toList)) (hg : (w2.alloc o).grownBy w3 vo.ownBlock) (hat : vo'.ownBlock = vo.ownBlock ∨ vo'.ownBlock = some H) (hH : (w2.alloc o).heap.size = H) :
    St W0 w3 B g r n vi vo' L (k + 1) ((fr + 1) % n) c' ring mark ended := by
  have hb' : But2 g r w w1 := But2.of_left hb
  have e1 : w1.ownsRow B 33 7 vi L.length (mcells L) := own_but2 h.oi hb' h.gB h.rB
  have e2 : w1.ownsRow B 33 7 vo k (mcells (L.take k)) := own_but2 h.oo hb' h.gB h.rB
  have hb3 : Below w1.heap.size w1 (w2.alloc o) := hb2.alloc hb2.size _
  have hl3 := hl.kept hb3
  have f1 := Kit.own_below e1 hb3
  have f2 := Kit.own_below e2 hb3
  have hB1 : Below W0.heap.size W0 w1 := But2.below h.bel hb' h.gW h.rW h.bel.size
  have hB3 : Below W0.heap.size W0 (w2.alloc o) := hB1.trans (hb3.mono hB1.size)
  have Bw1 : B ≤ (w2.alloc o).heap.size := Nat.le_trans h.Bw (Nat.le_trans hb.size hb3.size)
  have n1 := Kit.own_ne f2 h.gB
  have n2 := Kit.own_ne f2 h.rB
  have hlen := h.len
  have hq := h.q
  rw [queue_take ring n fr c' h.lk.f1] at hq
  have hlt : k < L.length := by omega
  rw [List.drop_eq_getElem_cons hlt] at hq
  obtain ⟨hq1, hq2⟩ := List.cons.inj hq
  refine ⟨hl3.grown hg n1 n2, Kit.grown_below hB3 f2 hg hB3.size (by have := h.gW; have := h.gB; omega), h.gW, h.rW, h.gB, h.rB, Nat.le_trans Bw1 hg.size, ?_, ?_, ?_, by omega, hq2, h.last⟩
  · refine f1.kept hg ?_
    cases hv : vi.ownBlock with
    | none => exact .inl rfl
    | some b => exact .inr fun e => h.ne b hv e.symm
  · rw [List.take_succ_eq_append_getElem hlt, mcells_snoc, ← hq1]; exact hown
  · intro b hbk hv
    rcases hat with e | e
    · exact h.ne b hbk (e ▸ hv)
    · have hlt := (f1.lt b hbk).2
      rw [e] at hv
      have := Option.some.inj hv
      omega
end
end Go.Proofs.YthbbbmomlehimaaR.Lk
