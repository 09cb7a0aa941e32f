import Derived.Test.YthbbbmomlehimaaROcB
set_option linter.unusedVariables false
namespace Go.Proofs.YthbbbmomlehimaaR.Oc
open Go.RowKit

theorem wrap8 (x : Int) (h : 0 ≤ x) (h2 : x < 256) : IntKind.u8.wrap x = x := by rw [IntKind.wrap_u8]; omega

set_option maxRecDepth 100000 in
theorem number_small (A : Option Addr) (n c : Nat) (l : List Int) (x : Nat) (w : World) (hb : BytesAt w A n l) (hn : n ≤ 140737488351232) (hx : x ≤ 247) :
    Calls Try.prog 106 #[.slice A n c, .int .u64 x] w fun e w' => ∃ v, e = .returned v ∧ w'.ownsRow w.heap.size 5 1 v (n + (enc x).length) (u8s (l ++ enc x)) ∧ Below w.heap.size w w' := by
  have he : enc x = [(x : Int)] := by simp [enc, hx]
  rw [he]; clear he
  obtain ⟨i0, hi, hz0, hz1, hz2⟩ := info_parts info5
  have HI := Lib.hid hi; have HZ0 := Lib.hid hz0; have HZ1 := Lib.hid hz1; have HZ2 := Lib.hid hz2; clear hi hz0 hz1 hz2
  have HBA := Lib.hid hb; clear hb
  go_enter Try.func106, Try.ntmps106
  go_wp2_with fail
  refine (clone_calls A n c l _ HBA.out hn).mono ?_; rintro e w1 ⟨v1, rfl, hown, hb⟩
  have hsz := hb.size
  have HO := Lib.hid hown; have HB := Lib.hid hb; clear hown hb
  go_wp2_with ((at_builtin; refine wpList_append_own _ rfl _ _ 68 rfl w.heap.size 5 i0 (.int .u8 0) 1 1 Try.underlying68 HI.out HZ0.out HZ1.out HZ2.out rfl (by decide) _ _ _ rfl (HO.out.alloc _) ⟨w1.heap.size, 0, none⟩ 1 1 [.int .u8 x] rfl rfl ?c1 ?c2 ?c3 ?c4 ?c5 ?_))
  case c1 => exact World.news_of_block (t := 5) (fr := (0, 0)) (heap_alloc_new w1 _)
  case c2 => intro u hu; simp at hu; subst hu; rfl
  case c3 => simp [maxLen]; omega
  case c4 => omega
  case c5 => simp; omega
  intro v' w2 hown2 hg _
  have hB2 : Below w.heap.size w w2 := Kit.grown_below (HB.out.alloc hsz _) (HO.out.alloc _) hg (by simp; omega) (Nat.le_refl _)
  clear hg HO HB
  have HO2 := Lib.hid hown2; have HB2 := Lib.hid hB2; clear hown2 hB2
  go_wp2_with fail
  go_ret
  exact ⟨_, rfl, by simpa [u8s] using HO2.out, HB2.out⟩

set_option maxRecDepth 100000 in
theorem number_big (A : Option Addr) (n c : Nat) (l : List Int) (x : Nat) (w : World) (hb : BytesAt w A n l) (hn : n ≤ 140737488351232) (hx : 247 < x) (hx2 : x < 18446744073709551616) :
    Calls Try.prog 106 #[.slice A n c, .int .u64 x] w fun e w' => ∃ v, e = .returned v ∧ w'.ownsRow w.heap.size 5 1 v (n + (enc x).length) (u8s (l ++ enc x)) ∧ Below w.heap.size w w' := by
  obtain ⟨i0, hi, hz0, hz1, hz2⟩ := info_parts info5
  have HI := Lib.hid hi; have HZ0 := Lib.hid hz0; have HZ1 := Lib.hid hz1; have HZ2 := Lib.hid hz2; clear hi hz0 hz1 hz2
  have HBA := Lib.hid hb; clear hb
  have hle := le_length 8 x (by omega)
  go_enter Try.func106, Try.ntmps106
  go_wp2_with fail
  refine (clone_calls A n c l _ HBA.out hn).mono ?_; rintro e w1 ⟨v1, rfl, hown, hb⟩
  have hsz := hb.size
  have HO := Lib.hid hown; have HB := Lib.hid hb; clear hown hb
  go_wp2_with fail
  go_loop [5, 6] (fun k y => ∃ K Y : Nat, k = .int .i64 K ∧ y = .int .u64 Y ∧ K + (le Y).length = (le x).length ∧ Y ≤ x) (fun _ y => (intOf y).toNat)
  case atStart => exact ⟨0, x, rfl, rfl, by omega, Nat.le_refl _⟩
  case round =>
    obtain ⟨K, Y, rfl, rfl, hK, hY⟩ := hrel
    by_cases hp : 0 < Y
    · have hstep : (le Y).length = (le (Y / 256)).length + 1 := by rw [le_pos (by omega), List.length_cons]
      have hK8 : K ≤ 8 := by omega
      have HK := Lib.hid hK; have HST := Lib.hid hstep; clear hK hstep
      have d1 : decide (0 < Y) = true := decide_eq_true hp
      go_wp2_with fail
      exact ⟨⟨K + 1, Y / 256, by go_num, by go_num, by have h1 := HK.out; have h2 := HST.out; omega, by omega⟩, by simp [intOf]; omega⟩
    · obtain rfl : Y = 0 := by omega
      have hK2 : K = (le x).length := by rw [le_zero] at hK; simpa using hK
      clear hK
      subst hK2
      have d1 : decide (0 < 0) = false := rfl
      go_wp2_with ((at_builtin; refine wpList_append_own _ rfl _ _ 68 rfl w.heap.size 5 i0 (.int .u8 0) 1 1 Try.underlying68 HI.out HZ0.out HZ1.out HZ2.out rfl (by decide) _ _ _ rfl (HO.out.alloc _) ⟨w1.heap.size, 0, none⟩ 1 1 [.int .u8 (247 + (le x).length)] rfl rfl ?c1 ?c2 ?c3 ?c4 ?c5 ?_))
      case c2 => rfl
      case c3 => simp [maxLen]; omega
      case c4 => omega
      case c5 => omega
      intro v' w2 hown2 hg _
      have hB2 : Below w.heap.size w w2 := Kit.grown_below (HB.out.alloc hsz _) (HO.out.alloc _) hg (by simp; omega) (Nat.le_refl _)
      clear hg HO HB
      have HO2 := Lib.hid hown2; have HB2 := Lib.hid hB2; clear hown2 hB2
      go_wp2_with fail
      have hs0 : w2.ownsRow w.heap.size 5 1 v' (n + 1 + ([] : List Int).length) (u8s (l ++ [247 + ((le x).length : Int)] ++ [])) := by simpa [u8s] using HO2.out
      have HS0 := Lib.hid hs0; clear hs0
      go_loopw [0, 1] (fun b y wr => ∃ (bs : List Int) (X : Nat), y = .int .u64 X ∧ Hid (le x = bs ++ le X) ∧ X ≤ x ∧ Hid (wr.ownsRow w.heap.size 5 1 b (n + 1 + bs.length) (u8s (l ++ [247 + ((le x).length : Int)] ++ bs))) ∧ Hid (Below w.heap.size w wr)) (fun _ y _ => (intOf y).toNat)
      case atStart => exact ⟨[], x, rfl, rfl, Nat.le_refl _, HS0, HB2.out⟩
      case round =>
        obtain ⟨bs, X, rfl, HL, hX, HO, HB⟩ := hrel
        have hbl : bs.length ≤ 8 := by have h1 := congrArg List.length HL.out; rw [List.length_append] at h1; omega
        have hsz2 := HB.out.size
        by_cases hp : 0 < X
        · have d1 : decide (0 < X) = true := decide_eq_true hp
          have hmod : ((X : Int) % 256) < 256 := by omega
          go_wp2_with ((at_builtin; refine wpList_append_own _ rfl _ _ 68 rfl w.heap.size 5 i0 (.int .u8 0) 1 1 Try.underlying68 HI.out HZ0.out HZ1.out HZ2.out rfl (by decide) _ _ _ rfl (HO.out.alloc _) ⟨wr.heap.size, 0, none⟩ 1 1 [.int .u8 (X % 256)] rfl rfl ?e1 ?e2 ?e3 ?e4 ?e5 ?_))
          case e1 => exact World.news_of_block (t := 5) (fr := (0, 0)) (heap_alloc_new wr _)
          case e2 => intro u hu; simp at hu; subst hu; rfl
          case e3 => simp [maxLen]; omega
          case e4 => omega
          case e5 => simp; omega
          intro v3 w3 hown3 hg3 _
          have hB3 : Below w.heap.size w w3 := Kit.grown_below (HB.out.alloc hsz2 _) (HO.out.alloc _) hg3 (by simp; omega) (Nat.le_refl _)
          clear hg3
          have HO3 := Lib.hid hown3; have HB3 := Lib.hid hB3; clear hown3 hB3
          have hlx : le x = bs ++ [(X : Int) % 256] ++ le (X / 256) := by
            rw [HL.out, le_pos (by omega)]; simp
          have HLX := Lib.hid hlx; clear hlx
          go_wp2_with fail
          go_roundw
          case rel => exact ⟨bs ++ [(X : Int) % 256], X / 256, by go_num, HLX.out, by omega, Kit.hid_mk (by have h := HO3.out; simp only [u8s, List.map_append, List.length_append, List.length_singleton, List.map_cons, List.map_nil, List.append_assoc] at h ⊢; rw [← Nat.add_assoc]; exact h), HB3.out⟩
          case measure => simp [intOf]; omega
        · obtain rfl : X = 0 := by omega
          have d1 : decide (0 < 0) = false := rfl
          go_wp2_with fail
          go_ret
          have hbs : le x = bs := by have h1 := HL.out; rw [le_zero, List.append_nil] at h1; exact h1
          have he : enc x = (247 + ((le x).length : Int)) :: le x := by unfold enc; rw [if_neg (by omega)]
          refine ⟨_, rfl, ?_, HB.out⟩
          have h2 := HO.out
          rw [he, hbs]
          rw [hbs] at h2
          rw [show l ++ [247 + (bs.length : Int)] ++ bs = l ++ (247 + (bs.length : Int)) :: bs by simp] at h2
          rw [show n + 1 + bs.length = n + ((247 + (bs.length : Int)) :: bs).length by simp; omega] at h2
          exact h2

theorem number_calls (A : Option Addr) (n c : Nat) (l : List Int) (x : Nat) (w : World) (hb : BytesAt w A n l) (hn : n ≤ 140737488351232) (hx2 : x < 18446744073709551616) :
    Calls Try.prog 106 #[.slice A n c, .int .u64 x] w fun e w' => ∃ v, e = .returned v ∧ w'.ownsRow w.heap.size 5 1 v (n + (enc x).length) (u8s (l ++ enc x)) ∧ Below w.heap.size w w' := by
  rcases Nat.lt_or_ge 247 x with h | h
  · exact number_big A n c l x w hb hn h hx2
  · exact number_small A n c l x w hb hn h
end Go.Proofs.YthbbbmomlehimaaR.Oc
