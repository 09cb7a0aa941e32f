import Derived.Test.YthbbbmomlehimaaROcC
set_option linter.unusedVariables false
namespace Go.Proofs.YthbbbmomlehimaaR.Oc
open Go.RowKit

/-! The document's Number: it appends onto the bytes that it is given. -/
set_option maxRecDepth 100000 in
theorem rnumber_small (base n : Nat) (v : Value) (l : List Int) (x : Nat) (w : World) (hown : w.ownsRow base 5 1 v n (u8s l)) (hbase : base ≤ w.heap.size) (hn : n ≤ 140737488351232) (hx : x ≤ 247) :
    Calls Try.prog 113 #[v, .int .u64 x] w fun e w' => ∃ v', e = .returned v' ∧ w'.ownsRow base 5 1 v' (n + (enc x).length) (u8s (l ++ enc x)) ∧ Below base w w' := by
  have he : enc x = [(x : Int)] := by simp [enc, hx]
  rw [he]; clear he
  obtain ⟨i0, hi, hz0, hz1, hz2⟩ := info_parts info5
  have HI := Lib.hid hi; have HZ0 := Lib.hid hz0; have HZ1 := Lib.hid hz1; have HZ2 := Lib.hid hz2; clear hi hz0 hz1 hz2
  have HO := Lib.hid hown; clear hown
  have d1 : decide ((x : Int) ≤ 247) = true := decide_eq_true (by omega)
  go_enter Try.func113, Try.ntmps113
  go_wp2_with ((at_builtin; refine wpList_append_own _ rfl _ _ 68 rfl base 5 i0 (.int .u8 0) 1 1 Try.underlying68 HI.out HZ0.out HZ1.out HZ2.out rfl (by decide) _ _ _ rfl (HO.out.alloc _) ⟨w.heap.size, 0, none⟩ 1 1 [.int .u8 x] rfl rfl ?c1 ?c2 ?c3 ?c4 ?c5 ?_))
  case c1 => exact World.news_of_block (t := 5) (fr := (0, 0)) (heap_alloc_new w _)
  case c2 => intro u hu; simp at hu; subst hu; rfl
  case c3 => simp [maxLen]; omega
  case c4 => omega
  case c5 => simp; omega
  intro v' w2 hown2 hg _
  have hB2 : Below base w w2 := Kit.grown_below ((Below.refl _ _).alloc hbase _) (HO.out.alloc _) hg (by simp; omega) (Nat.le_refl _)
  clear hg HO
  have HO2 := Lib.hid hown2; have HB2 := Lib.hid hB2; clear hown2 hB2
  go_wp2_with fail
  go_ret
  exact ⟨_, rfl, by simpa [u8s] using HO2.out, HB2.out⟩

set_option maxRecDepth 100000 in
theorem rnumber_big (base n : Nat) (v : Value) (l : List Int) (x : Nat) (w : World) (hown : w.ownsRow base 5 1 v n (u8s l)) (hbase : base ≤ w.heap.size) (hn : n ≤ 140737488351232) (hx : 247 < x) (hx2 : x < 18446744073709551616) :
    Calls Try.prog 113 #[v, .int .u64 x] w fun e w' => ∃ v', e = .returned v' ∧ w'.ownsRow base 5 1 v' (n + (enc x).length) (u8s (l ++ enc x)) ∧ Below base w w' := by
  obtain ⟨i0, hi, hz0, hz1, hz2⟩ := info_parts info5
  have HI := Lib.hid hi; have HZ0 := Lib.hid hz0; have HZ1 := Lib.hid hz1; have HZ2 := Lib.hid hz2; clear hi hz0 hz1 hz2
  have HO := Lib.hid hown; clear hown
  have hle := le_length 8 x (by omega)
  have d1 : decide ((x : Int) ≤ 247) = false := decide_eq_false (by omega)
  go_enter Try.func113, Try.ntmps113
  go_wp2_with fail
  have HO0 : Hid (w.ownsRow w.heap.size 5 1 (.slice none 0 0) 0 (u8s [])) := World.ownsRow_nil _ _ _ _
  go_loopw [5, 6] (fun b y wr => ∃ (bs : List Int) (X : Nat), y = .int .u64 X ∧ Hid (le x = bs ++ le X) ∧ X ≤ x ∧ Hid (wr.ownsRow w.heap.size 5 1 b bs.length (u8s bs)) ∧ Hid (Below w.heap.size w wr)) (fun _ y _ => (intOf y).toNat)
  case atStart => exact ⟨[], x, rfl, rfl, Nat.le_refl _, HO0, Below.refl _ _⟩
  case round =>
    obtain ⟨bs, X, rfl, HL, hX, HR, HB⟩ := hrel
    have hbl : bs.length ≤ 8 := by have h1 := congrArg List.length HL.out; rw [List.length_append] at h1; omega
    have hsz2 := HB.out.size
    by_cases hp : 0 < X
    · have d2 : decide (0 < X) = true := decide_eq_true hp
      have hmod : ((X : Int) % 256) < 256 := by omega
      go_wp2_with ((at_builtin; refine wpList_append_own _ rfl _ _ 68 rfl w.heap.size 5 i0 (.int .u8 0) 1 1 Try.underlying68 HI.out HZ0.out HZ1.out HZ2.out rfl (by decide) _ _ _ rfl (HR.out.alloc _) ⟨wr.heap.size, 0, none⟩ 1 1 [.int .u8 (X % 256)] rfl rfl ?e1 ?e2 ?e3 ?e4 ?e5 ?_))
      case e1 => exact World.news_of_block (t := 5) (fr := (0, 0)) (heap_alloc_new wr _)
      case e2 => intro u hu; simp at hu; subst hu; rfl
      case e3 => simp [maxLen]; omega
      case e4 => omega
      case e5 => simp; omega
      intro v3 w3 hown3 hg3 _
      have hB3 : Below w.heap.size w w3 := Kit.grown_below (HB.out.alloc hsz2 _) (HR.out.alloc _) hg3 (by simp; omega) (Nat.le_refl _)
      clear hg3
      have HO3 := Lib.hid hown3; have HB3 := Lib.hid hB3; clear hown3 hB3
      have hlx : le x = bs ++ [(X : Int) % 256] ++ le (X / 256) := by
        rw [HL.out, le_pos (by omega)]; simp
      have HLX := Lib.hid hlx; clear hlx
      go_wp2_with fail
      go_roundw
      case rel => exact ⟨bs ++ [(X : Int) % 256], X / 256, by go_num, HLX.out, by omega, Kit.hid_mk (by have h := HO3.out; simp only [u8s, List.map_append, List.length_append, List.length_singleton, List.map_cons, List.map_nil] at h ⊢; exact h), HB3.out⟩
      case measure => simp [intOf]; omega
    · obtain rfl : X = 0 := by omega
      have d2 : decide (0 < 0) = false := rfl
      have hbs : le x = bs := by have h1 := HL.out; rw [le_zero, List.append_nil] at h1; exact h1
      have he : enc x = (247 + ((le x).length : Int)) :: le x := by unfold enc; rw [if_neg (by omega)]
      rw [hbs] at he
      have hpos : 0 < bs.length := by
        have h0 : le x ≠ [] := by rw [le_pos (by omega)]; simp
        rw [hbs] at h0
        exact List.length_pos_iff.2 h0
      have HE := Lib.hid he
      clear HL he hbs hle
      obtain ⟨A, c, rfl, hc, hba⟩ := BytesAt.of_own HR.out
      obtain ⟨b0, off, rfl, hlt, hcells⟩ := hba.2 hpos
      have hnews : ∀ (j : Nat) (u : Value), (u8s bs)[j]? = some u → wr.cell? ((⟨b0, off, none⟩ : Addr).add j) = some u := by
        intro j u hu
        obtain ⟨hj, rfl⟩ := u8s_get hu
        have ha : (⟨b0, off, none⟩ : Addr).add j = ⟨b0, off + j, none⟩ := by unfold Addr.add; split <;> simp_all
        rw [ha]; exact hcells j hj
      have hb0 : w.heap.size ≤ b0 := by
        have h := HR.out
        rcases h.2 with ⟨h1, _⟩ | ⟨g, cap, cur, h1, h2, _⟩
        · cases h1
        · have := congrArg (fun v => match v with | .slice (some a) _ _ => a.block | _ => 0) h1
          simp at this; omega
      have HNW := Lib.hid hnews; clear hnews hcells hba
      have HOV : Hid (wr.ownsRow base 5 1 v n (u8s l)) := Kit.own_below HO.out HB.out
      have HBB : Hid (Below base w wr) := HB.out.mono hbase
      have hvb : v.ownBlock ≠ some b0 := fun e => by
        have := (HO.out.lt b0 e).2; omega
      clear HR HB
      generalize hm : bs.length = m at *
      have HM := Lib.hid hm; clear hm
      go_wp2_with ((at_builtin; refine wpList_append_own _ rfl _ _ 68 rfl base 5 i0 (.int .u8 0) 1 1 Try.underlying68 HI.out HZ0.out HZ1.out HZ2.out rfl (by decide) _ _ _ rfl (HOV.out.alloc _) ⟨wr.heap.size, 0, none⟩ 1 1 [.int .u8 (247 + m)] rfl rfl ?c1 ?c2 ?c3 ?c4 ?c5 ?_))
      case c1 => exact World.news_of_block (t := 5) (fr := (0, 0)) (heap_alloc_new wr _)
      case c2 => intro u hu; simp at hu; subst hu; rfl
      case c3 => simp [maxLen]; omega
      case c4 => omega
      case c5 => simp; omega
      intro v2 w2 hown2 hg _
      have hB2 : Below base w w2 := Kit.grown_below (HBB.out.alloc (by omega) _) (HOV.out.alloc _) hg (by simp; omega) (Nat.le_refl _)
      have hN2 : ∀ (j : Nat) (u : Value), (u8s bs)[j]? = some u → w2.cell? ((⟨b0, off, none⟩ : Addr).add j) = some u := fun j u hu => by
        have h1 := HNW.out j u hu
        rw [← h1]
        have hk : ((⟨b0, off, none⟩ : Addr).add j).block = b0 := by unfold Addr.add; split <;> rfl
        refine World.cell?_of_block ?_
        rw [hk]
        exact (hg.block b0 (by simp; omega) (fun e => hvb e.symm)).trans (Below.heap_alloc wr _ b0 hlt)
      have hz2 := hg.size
      simp at hz2
      clear hg HO HBB HNW HOV
      have HO2 := Lib.hid hown2; have HB2 := Lib.hid hB2; have HN2 := Lib.hid hN2; clear hown2 hB2 hN2
      go_wp2_with ((at_builtin; refine wpList_append_own _ rfl _ _ 68 rfl base 5 i0 (.int .u8 0) 1 1 Try.underlying68 HI.out HZ0.out HZ1.out HZ2.out rfl (by decide) _ _ _ rfl HO2.out ⟨b0, off, none⟩ m c (u8s bs) rfl ?d1 ?d2 ?d3 ?d4 ?d5 ?d6 ?_))
      case d1 => simp [u8s]; exact HM.out
      case d2 => exact HN2.out
      case d3 => exact u8s_one bs
      case d4 => simp [maxLen]; omega
      case d5 => omega
      case d6 => omega
      intro v3 w3 hown3 hg3 _
      have hB3 : Below base w w3 := Kit.grown_below HB2.out HO2.out hg3 (by omega) (Nat.le_refl _)
      clear hg3 HO2 HB2 HN2
      have HO3 := Lib.hid hown3; have HB3 := Lib.hid hB3; clear hown3 hB3
      go_wp2_with fail
      go_ret
      refine ⟨_, rfl, ?_, HB3.out⟩
      have h := HO3.out
      rw [HE.out, List.length_cons, ← HM.out]
      rw [← HM.out] at h
      simp only [u8s, List.map_append, List.map_cons] at h ⊢
      rw [show n + (bs.length + 1) = n + 1 + bs.length by omega]
      exact h

theorem rnumber_calls (base n : Nat) (v : Value) (l : List Int) (x : Nat) (w : World) (hown : w.ownsRow base 5 1 v n (u8s l)) (hbase : base ≤ w.heap.size) (hn : n ≤ 140737488351232) (hx2 : x < 18446744073709551616) :
    Calls Try.prog 113 #[v, .int .u64 x] w fun e w' => ∃ v', e = .returned v' ∧ w'.ownsRow base 5 1 v' (n + (enc x).length) (u8s (l ++ enc x)) ∧ Below base w w' := by
  rcases Nat.lt_or_ge 247 x with h | h
  · exact rnumber_big base n v l x w hown hbase hn h hx2
  · exact rnumber_small base n v l x w hown hbase hn h
end Go.Proofs.YthbbbmomlehimaaR.Oc
