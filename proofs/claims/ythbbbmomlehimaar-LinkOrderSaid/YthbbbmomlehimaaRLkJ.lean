import Derived.Test.YthbbbmomlehimaaRLkI
set_option linter.unusedVariables false
namespace Go.Proofs.YthbbbmomlehimaaR.Lk
open Go.RowKit Ts

/-- What has been made since. -/
def Fin (w w' : World) : Prop := Below w.heap.size w w'
theorem Fin.bel {w w' : World} (h : Fin w w') : Below w.heap.size w w' := h
theorem Fin.draw {w : World} (h : Fin w w) : Fin w w.drew := below_drew (Below.refl _ _)
theorem Fin.next {w a b : World} (h : Fin w a) (hb : Below a.heap.size a b) : Fin w b := Kit.then_ h hb
theorem own_cap {w : World} {base m : Nat} {e : TypeId} {size n c : Nat} {A : Option Addr} {xs : List Value} (h : w.ownsRow base e size (.slice A n c) m xs) : c ≤ maxLen := by
  rcases h.2 with ⟨h1, _⟩ | ⟨g, cap, cur, h1, _, _, _, h2, _⟩
  · have h3 := congrArg (fun v => match v with | .slice _ _ c => c | _ => 0) h1
    simp only at h3
    rw [h3]; exact Nat.zero_le _
  · have h3 := congrArg (fun v => match v with | .slice _ _ c => c | _ => 0) h1
    simp only at h3
    rw [h3]; exact h2
set_option maxRecDepth 100000 in
set_option maxHeartbeats 8000000 in
theorem order_short (room : Int) (A B2 : Option Addr) (N c0 M c1 : Nat) (ls : List Mg) (bs : List Bool) (w : World) (hl : MsgsAt w A N ls) (hb : BoolsAt w B2 M bs) (hN : N ≤ 100) (hM : M ≤ 140737488351232) :
    Calls Try.prog 3 #[.int .i64 room, .slice A N c0, .slice B2 M c1] w fun e w' => e = .returned (.bool true) ∧ Below w.heap.size w w' := by
  obtain ⟨i0, z0, hi, hz0, hzc, hz1, hz2⟩ := made33
  have hz3 : z0.cells.size = 7 := by rw [hzc]; rfl
  have HI := Lib.hid hi; have HZ0 := Lib.hid hz0; have HZ1 := Lib.hid hz1; have HZ2 := Lib.hid hz2; have HZ3 := Lib.hid hz3; clear hi hz0 hz1 hz2 hzc hz3
  have HML := Lib.hid hl; have HBL := Lib.hid hb; clear hl hb
  have d1 : decide ((100 : Int) < N) = false := decide_eq_false (by omega)
  have hpk := pick_calls room 9
  obtain ⟨p, hp⟩ : ∃ p : Nat, room % 9 = p := ⟨(room % 9).toNat, by omega⟩
  have hp9 : p < 9 := by omega
  rw [hp] at hpk
  have HP := Lib.hid hpk; clear hpk hp
  go_enter Try.func3, Try.ntmps3
  go_wp2_with fail
  refine (lives_calls _).mono ?_; rintro e wa ⟨rfl, hb⟩
  have ZA := Lib.hid hb; clear hb
  go_wp2_with fail
  refine (HP.out _ (by omega) (by omega)).mono ?_; rintro e wa' ⟨rfl, rfl⟩
  go_wp2_with fail
  rw [show (1 : Int) + p = ((1 + p : Nat) : Int) by simp]
  have n1 : 1 ≤ 1 + p := by omega
  have n2 : 1 + p ≤ 9 := by omega
  generalize 1 + p = n at *
  clear hp9 HP
  refine (new_calls n _ n1 (by omega)).mono ?_; rintro e w1 ⟨g, r, rfl, hl, hg, hr, hb⟩
  have hzA := ZA.out.size
  have ZB := Lib.hid (Kit.then_ ZA.out hb); clear hb
  have HV := Lib.hid (Inv.start hl ZB.out (by omega) (by omega)); clear hl
  generalize hBB : w1.heap.size = B at *
  clear hBB
  go_wp2_with fail
  go_loopw [10, 11, 12] (fun vi vo vx wr => ∃ i : Nat, i ≤ N ∧ vx = .int .i64 i ∧ Hid (Inv w wr B g r n vi vo i)) (fun _ _ vx _ => N - (intOf vx).toNat)
  case atStart => exact ⟨0, Nat.zero_le _, rfl, HV⟩
  case round =>
    obtain ⟨i, hi, rfl, HV⟩ := hrel
    obtain ⟨L, k, fr, c, ring, mark, ended, hs, hL⟩ := HV.out
    have HS := Lib.hid hs
    have hlen1 : L.length ≤ k + c := Nat.le_of_eq hs.len
    have hlen2 : k + c ≤ L.length := Nat.le_of_eq hs.len.symm
    have hkL := hs.hk
    clear hs HV ZA ZB
    by_cases hlt : i < N
    · have dk : decide (i < N) = true := decide_eq_true hlt
      go_wp2_with fail
      refine (len_calls HS.out.lk).mono ?_; rintro e w2 ⟨rfl, rfl⟩
      obtain ⟨bl, ol, rfl, hbl, hcl⟩ := HML.out.2 (by omega)
      have HCL : Hid (∀ (W : World), Below w.heap.size w W → ∀ k, k < 7 → W.cell? ⟨bl, ol + i * 7 + k, none⟩ = (ls.getD i default).vals[k]?) := fun W hW k hk => (hW.cell (p := ⟨bl, _, none⟩) hbl).trans (hcl i k hlt hk)
      clear hcl
      generalize ls.getD i default = m at *
      have q1 : (0 : Int) ≤ i := by omega
      have q2 : (i : Int) < N := by omega
      have m0 : wr.cell? ⟨bl, ol + i * 7, none⟩ = some (.int .i64 m.kind) := HCL.out wr (HS.out.bel) 0 (by decide)
      have m1 : wr.cell? ⟨bl, ol + i * 7 + 1, none⟩ = some (.int .i64 m.time) := HCL.out wr (HS.out.bel) 1 (by decide)
      have m2 : wr.cell? ⟨bl, ol + i * 7 + 2, none⟩ = some (.int .i64 m.cls) := HCL.out wr (HS.out.bel) 2 (by decide)
      have m3 : wr.cell? ⟨bl, ol + i * 7 + 3, none⟩ = some (.int .u8 m.high) := HCL.out wr (HS.out.bel) 3 (by decide)
      have m4 : wr.cell? ⟨bl, ol + i * 7 + 4, none⟩ = some (.int .i64 m.bank) := HCL.out wr (HS.out.bel) 4 (by decide)
      have m5 : wr.cell? ⟨bl, ol + i * 7 + 5, none⟩ = some (.int .i64 m.place) := HCL.out wr (HS.out.bel) 5 (by decide)
      have m6 : wr.cell? ⟨bl, ol + i * 7 + 6, none⟩ = some (.int .u8 m.value) := HCL.out wr (HS.out.bel) 6 (by decide)
      go_wp2_with fail
      clear m0 m1 m2 m3 m4 m5 m6
      have hsa := send_all m HS.out.lk
      unfold Mg.val Mg.vals at hsa
      have HSA := Lib.hid hsa; clear hsa
      refine HSA.out.mono ?_; rintro e w2 ⟨x, rfl, hp⟩
      have HP := Lib.hid hp; clear hp HSA
      go_upto_if 49 with (fail)
      go_cut [10, 13, 14] (fun vi s13 s14 wx => ∃ (f : Bool) (y : Int), s13 = .bool f ∧ s14 = .int .i64 y ∧ Hid (f = true → y ≠ 0) ∧ Hid (Inv w wx B g r n vi u11 (i + 1)))
      case first =>
        rcases HP.out with ⟨hx, hcn, hmt, hen, hl2, hb2⟩ | ⟨hx, hb2⟩
        · have dx : (x == 0) = true := by simpa using hx
          have df : ((c : Int) == n) = false := beq_eq_false_iff_ne.2 (by omega)
          have L2 := Lib.hid hl2; have R2 := Lib.hid hb2
          have Z2 := Lib.hid (But2.below HS.out.bel hb2 HS.out.gW HS.out.rW HS.out.bel.size)
          have O2 := Lib.hid (own_but2 HS.out.oi hb2 HS.out.gB HS.out.rB)
          have hBw : B ≤ w2.heap.size := Nat.le_trans HS.out.Bw hb2.size
          have HLA : Hid (∀ y, L.getLast? = some y → mark = y.time ∧ ended = (y.kind == 5)) := HS.out.last
          clear hl2 hb2 HP
          obtain ⟨Ai, ci, rfl, hci, _, hma⟩ := MsgsAt.of_own O2.out
          have m0 : w2.cell? ⟨bl, ol + i * 7, none⟩ = some (.int .i64 m.kind) := HCL.out w2 (Z2.out) 0 (by decide)
          have m1 : w2.cell? ⟨bl, ol + i * 7 + 1, none⟩ = some (.int .i64 m.time) := HCL.out w2 (Z2.out) 1 (by decide)
          have m2 : w2.cell? ⟨bl, ol + i * 7 + 2, none⟩ = some (.int .i64 m.cls) := HCL.out w2 (Z2.out) 2 (by decide)
          have m3 : w2.cell? ⟨bl, ol + i * 7 + 3, none⟩ = some (.int .u8 m.high) := HCL.out w2 (Z2.out) 3 (by decide)
          have m4 : w2.cell? ⟨bl, ol + i * 7 + 4, none⟩ = some (.int .i64 m.bank) := HCL.out w2 (Z2.out) 4 (by decide)
          have m5 : w2.cell? ⟨bl, ol + i * 7 + 5, none⟩ = some (.int .i64 m.place) := HCL.out w2 (Z2.out) 5 (by decide)
          have m6 : w2.cell? ⟨bl, ol + i * 7 + 6, none⟩ = some (.int .u8 m.value) := HCL.out w2 (Z2.out) 6 (by decide)

          have HX := Lib.hid hx; clear hx
          have hci2 : ci ≤ 9223372036854775807 := by
            have h := own_cap O2.out
            simpa [maxLen] using h
          simp only [df, dx]
          rcases Nat.eq_zero_or_pos L.length with h0 | h0
          · have dl : decide (0 < L.length) = false := decide_eq_false (by omega)
            have dl2 : decide ((0 : Int) < L.length) = false := decide_eq_false (by omega)
            have h0' : L.length ≤ 0 := by omega
            clear h0
            go_upto_region 16 with (fail)
            go_quiet (fail)
            clear m0 m1 m2 m3 m4 m5 m6
            go_upto_region 18 with (fail)
            generalize hW : World.drewN w2 _ = w3
            have hb3 : Below w2.heap.size w2 w3 := by rw [← hW]; exact below_drewN (Below.refl _ _) _
            have O3 := Lib.hid (Kit.own_below O2.out hb3)
            have Z3 := Lib.hid (Kit.then_ Z2.out hb3)
            have HB3 := Lib.hid hb3
            have hz3 := hb3.size
            clear hW hb3
            have m0 : w3.cell? ⟨bl, ol + i * 7, none⟩ = some (.int .i64 m.kind) := HCL.out w3 (Z3.out) 0 (by decide)
            have m1 : w3.cell? ⟨bl, ol + i * 7 + 1, none⟩ = some (.int .i64 m.time) := HCL.out w3 (Z3.out) 1 (by decide)
            have m2 : w3.cell? ⟨bl, ol + i * 7 + 2, none⟩ = some (.int .i64 m.cls) := HCL.out w3 (Z3.out) 2 (by decide)
            have m3 : w3.cell? ⟨bl, ol + i * 7 + 3, none⟩ = some (.int .u8 m.high) := HCL.out w3 (Z3.out) 3 (by decide)
            have m4 : w3.cell? ⟨bl, ol + i * 7 + 4, none⟩ = some (.int .i64 m.bank) := HCL.out w3 (Z3.out) 4 (by decide)
            have m5 : w3.cell? ⟨bl, ol + i * 7 + 5, none⟩ = some (.int .i64 m.place) := HCL.out w3 (Z3.out) 5 (by decide)
            have m6 : w3.cell? ⟨bl, ol + i * 7 + 6, none⟩ = some (.int .u8 m.value) := HCL.out w3 (Z3.out) 6 (by decide)
            go_wp2_with ((at_builtin; refine wpList_append_own_at _ rfl _ _ 22 rfl B 33 i0 z0 7 56 Try.underlying22 HI.out HZ0.out HZ1.out HZ2.out HZ3.out (by decide) _ _ _ rfl (O3.out.alloc _) ⟨w3.heap.size, 0, none⟩ 1 1 m.vals.toList rfl rfl ?e1 ?e2 ?e3 ?e4 ?e5 ?_))
            case e1 => exact World.news_of_block (t := 33) (fr := (0, 0)) (heap_alloc_new w3 _)
            case e2 => intro u hu; simp [Mg.vals] at hu; rcases hu with h | h | h | h | h | h | h <;> subst h <;> rfl
            case e3 => simp [maxLen]; omega
            case e4 => omega
            case e5 => simp; omega
            intro v4 w4 hown4 hg4 _ hat4
            have HS4 := Lib.hid (HS.out.sent (w3.heap.size + 1) hcn L2.out R2.out HB3.out hown4 hg4 hat4 (by simp))
            clear hown4 hg4 hat4
            clear m0 m1 m2 m3 m4 m5 m6
            go_wp2_with fail
            go_meet
            case rel => exact ⟨_, _, rfl, rfl, Kit.hid_mk (by intro h; cases h), Kit.hid_mk ⟨_, _, _, _, _, _, _, HS4.out, by rw [List.length_append, List.length_singleton]; omega⟩⟩
          · obtain ⟨q, hq⟩ : ∃ q, L.length = q + 1 := ⟨L.length - 1, by omega⟩
            obtain ⟨bi, oi, rfl, hbi, hcl⟩ := hma.2 h0
            obtain ⟨y, hy⟩ : ∃ y, L.getLast? = some y := by
              cases h : L.getLast? with
              | none => rw [List.getLast?_eq_none_iff] at h; rw [h] at h0; simp at h0
              | some y => exact ⟨y, rfl⟩
            have hyd : L.getD q default = y := by
              rw [List.getLast?_eq_getElem?, hq, Nat.add_sub_cancel] at hy
              simp [List.getD, hy]
            obtain ⟨hm1, hm2⟩ := HLA.out y hy
            have k0 : w2.cell? ⟨bi, oi + q * 7, none⟩ = some (.int .i64 y.kind) := by rw [← hyd]; exact hcl q 0 (by omega) (by decide)
            have k1 : w2.cell? ⟨bi, oi + q * 7 + 1, none⟩ = some (.int .i64 y.time) := by rw [← hyd]; exact hcl q 1 (by omega) (by decide)
            have t1 : decide (m.time < y.time) = false := decide_eq_false (by omega)
            have t2 : (y.kind == 5) = false := by rw [← hm2]; exact hen
            have dl : decide (0 < L.length) = true := decide_eq_true h0
            have dl2 : decide ((0 : Int) < L.length) = true := decide_eq_true (by omega)
            have hq1 : (L.length : Int) - 1 = q := by omega
            have hq2 : (0 : Int) ≤ q := by omega
            have hq3 : (q : Int) < L.length := by omega
            have HY := Lib.hid hyd; have HQ := Lib.hid hq; have HM1 := Lib.hid hm1; have HM2 := Lib.hid hm2; have HY2 := Lib.hid hy; have HEN := Lib.hid hen
            clear hyd hq hm1 hm2 hy hcl hma hen
            go_upto_region 16 with (fail)
            go_quiet (fail)
            clear k0 k1 hq1
            clear m0 m1 m2 m3 m4 m5 m6
            go_upto_region 18 with (fail)
            generalize hW : World.drewN w2 _ = w3
            have hb3 : Below w2.heap.size w2 w3 := by rw [← hW]; exact below_drewN (Below.refl _ _) _
            have O3 := Lib.hid (Kit.own_below O2.out hb3)
            have Z3 := Lib.hid (Kit.then_ Z2.out hb3)
            have HB3 := Lib.hid hb3
            have hz3 := hb3.size
            clear hW hb3
            have m0 : w3.cell? ⟨bl, ol + i * 7, none⟩ = some (.int .i64 m.kind) := HCL.out w3 (Z3.out) 0 (by decide)
            have m1 : w3.cell? ⟨bl, ol + i * 7 + 1, none⟩ = some (.int .i64 m.time) := HCL.out w3 (Z3.out) 1 (by decide)
            have m2 : w3.cell? ⟨bl, ol + i * 7 + 2, none⟩ = some (.int .i64 m.cls) := HCL.out w3 (Z3.out) 2 (by decide)
            have m3 : w3.cell? ⟨bl, ol + i * 7 + 3, none⟩ = some (.int .u8 m.high) := HCL.out w3 (Z3.out) 3 (by decide)
            have m4 : w3.cell? ⟨bl, ol + i * 7 + 4, none⟩ = some (.int .i64 m.bank) := HCL.out w3 (Z3.out) 4 (by decide)
            have m5 : w3.cell? ⟨bl, ol + i * 7 + 5, none⟩ = some (.int .i64 m.place) := HCL.out w3 (Z3.out) 5 (by decide)
            have m6 : w3.cell? ⟨bl, ol + i * 7 + 6, none⟩ = some (.int .u8 m.value) := HCL.out w3 (Z3.out) 6 (by decide)
            go_wp2_with ((at_builtin; refine wpList_append_own_at _ rfl _ _ 22 rfl B 33 i0 z0 7 56 Try.underlying22 HI.out HZ0.out HZ1.out HZ2.out HZ3.out (by decide) _ _ _ rfl (O3.out.alloc _) ⟨w3.heap.size, 0, none⟩ 1 1 m.vals.toList rfl rfl ?e1 ?e2 ?e3 ?e4 ?e5 ?_))
            case e1 => exact World.news_of_block (t := 33) (fr := (0, 0)) (heap_alloc_new w3 _)
            case e2 => intro u hu; simp [Mg.vals] at hu; rcases hu with h | h | h | h | h | h | h <;> subst h <;> rfl
            case e3 => simp [maxLen]; omega
            case e4 => omega
            case e5 => simp; omega
            intro v4 w4 hown4 hg4 _ hat4
            have HS4 := Lib.hid (HS.out.sent (w3.heap.size + 1) hcn L2.out R2.out HB3.out hown4 hg4 hat4 (by simp))
            clear hown4 hg4 hat4
            clear m0 m1 m2 m3 m4 m5 m6
            go_wp2_with fail
            go_meet
            case rel => exact ⟨_, _, rfl, rfl, Kit.hid_mk (by intro h; cases h), Kit.hid_mk ⟨_, _, _, _, _, _, _, HS4.out, by rw [List.length_append, List.length_singleton]; omega⟩⟩
        · have dx : (x == 0) = false := by simpa using hx
          have HX := Lib.hid hx; clear hx
          have HS4 := Lib.hid (HS.out.below hb2); clear hb2 HP
          go_wp2_with fail
          go_meet
          case rel => exact ⟨_, _, rfl, rfl, Kit.hid_mk (fun _ => HX.out), Kit.hid_mk ⟨_, _, _, _, _, _, _, HS4.out, by omega⟩⟩
      case rest =>
        obtain ⟨f, y, rfl, rfl, HF, HV⟩ := hcut
        clear HP HS hlen1 hlen2 hkL hL
        obtain ⟨L, k, fr, c, ring, mark, ended, hs, hL⟩ := HV.out
        have HS := Lib.hid hs
        have hlen1 : L.length ≤ k + c := Nat.le_of_eq hs.len
        have hlen2 : k + c ≤ L.length := Nat.le_of_eq hs.len.symm
        have hkL := hs.hk
        clear hs HV
        go_upto_region 19 with (fail)
        go_cut [100] (fun v wx => v = .bool false ∧ Hid (Below wc.heap.size wc wx))
        case first =>
          cases f
          · go_wp2_with fail
            go_meet
            case rel => exact ⟨rfl, Below.refl _ _⟩
          · have dy : (y == 0) = false := by simpa using HF.out rfl
            have hck := check_calls m
            unfold Mg.val Mg.vals at hck
            generalize chkE m = ce at *
            have HC := Lib.hid hck; clear hck
            have m0 : wc.cell? ⟨bl, ol + i * 7, none⟩ = some (.int .i64 m.kind) := HCL.out wc (HS.out.bel) 0 (by decide)
            have m1 : wc.cell? ⟨bl, ol + i * 7 + 1, none⟩ = some (.int .i64 m.time) := HCL.out wc (HS.out.bel) 1 (by decide)
            have m2 : wc.cell? ⟨bl, ol + i * 7 + 2, none⟩ = some (.int .i64 m.cls) := HCL.out wc (HS.out.bel) 2 (by decide)
            have m3 : wc.cell? ⟨bl, ol + i * 7 + 3, none⟩ = some (.int .u8 m.high) := HCL.out wc (HS.out.bel) 3 (by decide)
            have m4 : wc.cell? ⟨bl, ol + i * 7 + 4, none⟩ = some (.int .i64 m.bank) := HCL.out wc (HS.out.bel) 4 (by decide)
            have m5 : wc.cell? ⟨bl, ol + i * 7 + 5, none⟩ = some (.int .i64 m.place) := HCL.out wc (HS.out.bel) 5 (by decide)
            have m6 : wc.cell? ⟨bl, ol + i * 7 + 6, none⟩ = some (.int .u8 m.value) := HCL.out wc (HS.out.bel) 6 (by decide)
            go_wp2_with fail
            clear m0 m1 m2 m3 m4 m5 m6
            refine (HC.out _).mono ?_; rintro e w2 ⟨rfl, hb⟩
            have HB := Lib.hid hb; clear hb
            cases hce : (ce == 0)
            · go_wp2_with fail
              go_meet
              case rel => exact ⟨rfl, HB⟩
            · go_wp2_with fail
              go_meet
              case rel => exact ⟨rfl, HB⟩
        case rest =>
          obtain ⟨rfl, HB⟩ := hcut
          have HS2 := Lib.hid (HS.out.below HB.out)
          clear HS HB HF
          go_upto_region 21 with (fail)
          go_cut [110] (fun v wx => ∃ tk : Bool, v = .bool tk ∧ wc = wx)
          case first =>
            by_cases hiM : i < M
            · have di : decide (i < M) = true := decide_eq_true hiM
              obtain ⟨bt, ot, rfl, hbt, hct⟩ := HBL.out.2 (by omega)
              have tb : wc.cell? ⟨bt, ot + i, none⟩ = some (.bool (bs.getD i false)) := (HS2.out.bel.cell (p := ⟨bt, _, none⟩) hbt).trans (hct i hiM)
              clear hct
              have q3 : (i : Int) < M := by omega
              go_wp2_with fail
              go_meet
              case rel => exact ⟨_, rfl, rfl⟩
            · have di : decide (i < M) = false := decide_eq_false hiM
              go_wp2_with fail
              go_meet
              case rel => exact ⟨_, rfl, rfl⟩
          case rest =>
            obtain ⟨tk, rfl, rfl⟩ := hcut
            go_upto_if 110 with (fail)
            go_cut [11] (fun vo wx => Hid (Inv w wx B g r n u10 vo (i + 1)))
            case first =>
              cases tk
              · go_wp2_with fail
                go_meet
                case rel => exact Kit.hid_mk ⟨_, _, _, _, _, _, _, HS2.out, hL⟩
              · obtain ⟨Ai, ci, rfl, hci, _, hma⟩ := MsgsAt.of_own HS2.out.oi
                obtain ⟨Ao, co, rfl, hco, _, hmo⟩ := MsgsAt.of_own HS2.out.oo
                clear hma hmo
                cases c with
                | zero =>
                  have dkl : decide (k < L.length) = false := decide_eq_false (by omega)
                  go_wp2_with fail
                  refine (take_no HS2.out.lk).mono ?_; rintro e w2 ⟨rfl, hb⟩
                  have HB := Lib.hid hb; clear hb
                  go_wp2_with fail
                  go_meet
                  case rel => exact Kit.hid_mk ⟨_, _, _, _, _, _, _, HS2.out.below (HB.out.alloc HB.out.size _), hL⟩
                | succ c =>
                  have dkl : decide (k < L.length) = true := decide_eq_true (by omega)
                  have htk := take_yes HS2.out.lk (Nat.succ_pos _)
                  rw [Nat.add_sub_cancel] at htk
                  unfold Mg.val Mg.vals at htk
                  have HTK := Lib.hid htk; clear htk
                  go_wp2_with fail
                  refine HTK.out.mono ?_; rintro e w2 ⟨rfl, hl2, hb2⟩
                  have L2 := Lib.hid hl2; have R2 := Lib.hid hb2
                  have Z2 := Lib.hid (But2.below HS2.out.bel (But2.of_left hb2 : But2 g r _ _) HS2.out.gW HS2.out.rW HS2.out.bel.size)
                  have O2 := Lib.hid (own_but2 HS2.out.oo (But2.of_left hb2 : But2 g r _ _) HS2.out.gB HS2.out.rB)
                  have hBw : B ≤ w2.heap.size := Nat.le_trans HS2.out.Bw hb2.size
                  clear hl2 hb2 HTK
                  generalize hM : ring fr = y0 at *
                  have HY := Lib.hid hM; clear hM
                  go_upto_region 23 with (fail)
                  have C3 := Lib.hid (Kit.blk1 w2 (MV y0))
                  have O3 := Lib.hid (O2.out.alloc (MV y0))
                  have hb3 := Kit.below1 w2 (MV y0)
                  unfold MV at C3 O3 hb3
                  generalize hW : w2.alloc _ = w3 at *
                  have HB3 := Lib.hid hb3; clear hW hb3
                  have hz3 := HB3.out.size
                  generalize hb3e : w2.heap.size = b3 at *
                  have HBE := Lib.hid hb3e; clear hb3e
                  have m0 : w3.cell? ⟨b3, 0, none⟩ = some (.int .i64 y0.kind) := Kit.cell C3.out 0 _ rfl
                  have m1 : w3.cell? ⟨b3, 1, none⟩ = some (.int .i64 y0.time) := Kit.cell C3.out 1 _ rfl
                  have m2 : w3.cell? ⟨b3, 2, none⟩ = some (.int .i64 y0.cls) := Kit.cell C3.out 2 _ rfl
                  have m3 : w3.cell? ⟨b3, 3, none⟩ = some (.int .u8 y0.high) := Kit.cell C3.out 3 _ rfl
                  have m4 : w3.cell? ⟨b3, 4, none⟩ = some (.int .i64 y0.bank) := Kit.cell C3.out 4 _ rfl
                  have m5 : w3.cell? ⟨b3, 5, none⟩ = some (.int .i64 y0.place) := Kit.cell C3.out 5 _ rfl
                  have m6 : w3.cell? ⟨b3, 6, none⟩ = some (.int .u8 y0.value) := Kit.cell C3.out 6 _ rfl
                  go_wp2_with ((at_builtin; refine wpList_append_own_at _ rfl _ _ 22 rfl B 33 i0 z0 7 56 Try.underlying22 HI.out HZ0.out HZ1.out HZ2.out HZ3.out (by decide) _ _ _ rfl (O3.out.alloc _) ⟨w3.heap.size, 0, none⟩ 1 1 y0.vals.toList rfl rfl ?e1 ?e2 ?e3 ?e4 ?e5 ?_))
                  case e1 => exact World.news_of_block (t := 33) (fr := (0, 0)) (heap_alloc_new w3 _)
                  case e2 => intro u hu; simp [Mg.vals] at hu; rcases hu with h | h | h | h | h | h | h <;> subst h <;> rfl
                  case e3 => simp [maxLen]; omega
                  case e4 => omega
                  case e5 => simp; omega
                  intro v4 w4 hown4 hg4 _ hat4
                  rw [← HY.out] at hown4
                  have HS4 := Lib.hid (HS2.out.taken (w3.heap.size + 1) L2.out R2.out (by rw [HBE.out]; exact HB3.out) hown4 hg4 hat4 (by simp))
                  clear hown4 hg4 hat4
                  clear m0 m1 m2 m3 m4 m5 m6
                  go_wp2_with fail
                  go_meet
                  case rel => exact Kit.hid_mk ⟨_, _, _, _, _, _, _, HS4.out, hL⟩
            case rest =>
              clear HS2 hlen1 hlen2 hkL hL
              obtain ⟨L, k, fr, c, ring, mark, ended, hs, hL⟩ := hcut.out
              have HS := Lib.hid hs
              have hlen1 : L.length ≤ k + c := Nat.le_of_eq hs.len
              have hlen2 : k + c ≤ L.length := Nat.le_of_eq hs.len.symm
              have hkL := hs.hk
              have hcn := hs.lk.c1
              clear hs hcut
              obtain ⟨Ai, ci, rfl, hci, _, hma⟩ := MsgsAt.of_own HS.out.oi
              obtain ⟨Ao, co, rfl, hco, _, hmo⟩ := MsgsAt.of_own HS.out.oo
              clear hma hmo
              have df1 : ((c : Int) == (L.length : Int) - k) = true := by rw [beq_iff_eq]; omega
              have df2 : ((c : Int) != (L.length : Int) - k) = false := by rw [bne_eq_false_iff_eq]; omega
              have df3 : ((c : Int) + ((n : Int) - c) != n) = false := by rw [bne_eq_false_iff_eq]; omega
              go_wp2_with fail
              refine (len_calls HS.out.lk).mono ?_; rintro e w2 ⟨rfl, rfl⟩
              go_wp2_with fail
              refine (len_calls HS.out.lk).mono ?_; rintro e w2 ⟨rfl, rfl⟩
              go_wp2_with fail
              refine (room_calls HS.out.lk).mono ?_; rintro e w2 ⟨rfl, hb⟩
              have HS2 := Lib.hid (HS.out.below hb); clear hb
              go_wp2_with fail
              go_roundw
              case rel => exact ⟨i + 1, by omega, by go_num, Kit.hid_mk ⟨_, _, _, _, _, _, _, HS2.out, hL⟩⟩
              case measure => simp [intOf]; omega
    · have dk : decide (i < N) = false := decide_eq_false hlt
      obtain ⟨Ai, ci, rfl, hci, _, hma⟩ := MsgsAt.of_own HS.out.oi
      obtain ⟨Ao, co, rfl, hco, _, hmo⟩ := MsgsAt.of_own HS.out.oo
      have HMA := Lib.hid hma; have HMO := Lib.hid hmo; clear hma hmo
      have hci2 : ci ≤ 9223372036854775807 := by have h := own_cap HS.out.oi; simpa [maxLen] using h
      have hq := HS.out.q
      have hcl : c ≤ L.length := by omega
      by_cases hck : ci = k
      · obtain rfl : ci = k := hck
        have A2 : MsgsAt wr (Ai) (L.length - ci) (L.drop ci) := by
          rcases Nat.lt_or_ge ci L.length with h | h
          · exfalso; omega
          · rw [show L.length - ci = 0 by omega]; exact MsgsAt.none_ (by rw [List.length_drop]; omega)
        have HA2 := Lib.hid A2; clear A2
        have A1 := Lib.hid (HMA.out.take_ ci hkL)
        have HLK := Lib.hid HS.out.lk
        have HZ := Lib.hid HS.out.bel
        have s1 : (0 : Int) ≤ ci := by omega
        have s2 : (ci : Int) ≤ L.length := by omega
        have s3 : (ci : Int) ≤ ci := by omega
        have s4 : (L.length : Int) ≤ ci := by omega
        have HF0 : Fin wr wr := Below.refl _ _
        have hce : c = L.length - ci := by omega
        subst hce
        have HQ := Lib.hid hq; clear hq
        go_wp2_with fail
        go_region_held3 (fun w' => Fin wr w')
          (first | exact Fin.draw HF0 | exact Fin.next (by assumption) (by assumption))
          (first
            | (go_at_call 22; refine (all_calls (HLK.out.kept (Fin.bel (by assumption)))).mono ?_; rintro e w9 ⟨v9, rfl, hown9, hb9⟩; rw [HQ.out] at hown9; obtain ⟨A9, c9, rfl, _, _, hm9⟩ := MsgsAt.of_own hown9; have HM9 := Lib.hid hm9; clear hm9 hown9)
            | (go_at_call_of 21 (Value.slice Ao ci co); refine (msgs_calls Ao Ai ci co ci (L.take ci) _ (HMO.out.below (Fin.bel (by assumption))) (A1.out.below (Fin.bel (by assumption))) (by omega)).mono ?_; rintro e w8 ⟨rfl, hb8⟩)
            | (go_at_call 21; refine (msgs_calls _ _ 0 _ _ [] _ (MsgsAt.none_ rfl) (MsgsAt.none_ rfl) (by omega)).mono ?_; rintro e w7 ⟨rfl, hb7⟩))
        all_goals go_wp2_with fail
        all_goals go_ret
        all_goals first | exact ⟨rfl, Kit.then_ (Kit.then_ (Kit.then_ (below_drew HZ.out) hb8) hb9) hb7⟩ | exact ⟨rfl, Kit.then_ (Kit.then_ (Kit.then_ (below_drew HZ.out) hb9) hb8) hb7⟩
      · skip
        have A2 : MsgsAt wr (Ai.map (·.add (k * 7))) (L.length - k) (L.drop k) := by
          rcases Nat.lt_or_ge k L.length with h | h
          · exact HMA.out.drop_ k h
          · rw [show L.length - k = 0 by omega]; exact MsgsAt.none_ (by rw [List.length_drop]; omega)
        have HA2 := Lib.hid A2; clear A2
        have A1 := Lib.hid (HMA.out.take_ k hkL)
        have HLK := Lib.hid HS.out.lk
        have HZ := Lib.hid HS.out.bel
        have s1 : (0 : Int) ≤ k := by omega
        have s2 : (k : Int) ≤ L.length := by omega
        have s3 : (k : Int) ≤ ci := by omega
        have s4 : (L.length : Int) ≤ ci := by omega
        have HF0 : Fin wr wr := Below.refl _ _
        have hce : c = L.length - k := by omega
        subst hce
        have HQ := Lib.hid hq; clear hq
        go_wp2_with fail
        go_region_held3 (fun w' => Fin wr w')
          (first | exact Fin.draw HF0 | exact Fin.next (by assumption) (by assumption))
          (first
            | (go_at_call 22; refine (all_calls (HLK.out.kept (Fin.bel (by assumption)))).mono ?_; rintro e w9 ⟨v9, rfl, hown9, hb9⟩; rw [HQ.out] at hown9; obtain ⟨A9, c9, rfl, _, _, hm9⟩ := MsgsAt.of_own hown9; have HM9 := Lib.hid hm9; clear hm9 hown9)
            | (go_at_call_of 21 (Value.slice Ao k co); refine (msgs_calls Ao Ai k co ci (L.take k) _ (HMO.out.below (Fin.bel (by assumption))) (A1.out.below (Fin.bel (by assumption))) (by omega)).mono ?_; rintro e w8 ⟨rfl, hb8⟩)
            | (go_at_call 21; refine (msgs_calls A9 _ _ c9 _ (L.drop k) _ (by first | exact HM9.out | exact HM9.out.below (by assumption)) (HA2.out.below (Fin.bel (by assumption))) (by omega)).mono ?_; rintro e w7 ⟨rfl, hb7⟩))
        all_goals go_wp2_with fail
        all_goals go_ret
        all_goals first | exact ⟨rfl, Kit.then_ (Kit.then_ (Kit.then_ (below_drew HZ.out) hb8) hb9) hb7⟩ | exact ⟨rfl, Kit.then_ (Kit.then_ (Kit.then_ (below_drew HZ.out) hb9) hb8) hb7⟩
end Go.Proofs.YthbbbmomlehimaaR.Lk
