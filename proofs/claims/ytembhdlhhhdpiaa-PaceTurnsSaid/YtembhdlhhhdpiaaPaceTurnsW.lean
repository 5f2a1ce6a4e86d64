/- The walk of PaceTurns. -/
import Derived.Test.YtembhdlhhhdpiaaPaceTurns
import Derived.Outline
namespace Go.Proofs.Ytembhdlhhhdpiaa
open Go.RowKit SatPlain

set_option maxRecDepth 100000 in
theorem turns_out (w : World) (q t k a : Int) (A : Option Addr) (len cap : Nat) (hf : ¬ Fit t a) :
    Calls Try.prog 6 #[TV q t k a, .slice A len cap] w fun e w' => e = .returned (.bool true) ∧ Below w.heap.size w w' := by
  have n0 := fun w => pNew_out w q t k a hf
  have aw := fun w => awake_any w
  have b0 : Below w.heap.size w (w.alloc (.cells #[.int .i64 q, .int .i64 t, .int .i64 k, .int .i64 a] 23)) := (Below.refl _ _).alloc (Nat.le_refl _) _
  have TB0 := Lib.hid (TB.new w q t k a)
  have B0 := Lib.hid b0
  clear b0 hf
  unfold TV at n0 ⊢
  go_enter Try.func6, Try.ntmps6
  go_wp2_with fail
  refine (n0 _).mono ?_
  rintro e w1 ⟨rfl, b1⟩
  obtain ⟨d0, d1, d2, d3⟩ := (TB0.out.below b1 (ltOf TB0.out)).cells
  have B1 := Lib.hid (B0.out.trans (b1.mono (B0.out.size)))
  clear b1 B0
  go_wp2_with fail
  refine (n0 _).mono ?_
  rintro e w2 ⟨rfl, b2⟩
  clear d0 d1 d2 d3 TB0
  have B2 := Lib.hid (B1.out.trans (b2.mono (B1.out.size)))
  clear b2 B1
  go_wp2_with fail
  refine (aw _).mono ?_
  rintro e w3 ⟨rfl, b3⟩
  go_wp2_with fail
  go_ret
  exact ⟨rfl, B2.out.trans (b3.mono B2.out.size)⟩

theorem int_eq {a b : Int} (h : a = b) : Value.int .i64 a = .int .i64 b := by rw [h]

set_option maxRecDepth 100000 in
set_option maxHeartbeats 16000000 in
theorem turns_in (w : World) (q t k a : Int) (A : Option Addr) (len cap : Nat) (what slot : Nat → Int) (hf : Fit t a) (hA : Acts w A len what slot) :
    Calls Try.prog 6 #[TV q t k a, .slice A len cap] w fun e w' => e = .returned (.bool true) ∧ Below w.heap.size w w' := by
  have n0 := fun w => pNew_in w q t k a hf
  have aw := fun w => awake_any w
  have b0 : Below w.heap.size w (w.alloc (.cells #[.int .i64 q, .int .i64 t, .int .i64 k, .int .i64 a] 23)) := (Below.refl _ _).alloc (Nat.le_refl _) _
  have sz : (w.alloc (.cells #[.int .i64 q, .int .i64 t, .int .i64 k, .int .i64 a] 23)).heap.size = w.heap.size + 1 := by simp
  have TB0 := Lib.hid (TB.new w q t k a)
  have B0 := Lib.hid b0
  have SZ := Lib.hid sz
  have G0 := Lib.hid (new0_good hf)
  obtain ⟨f0, f1, f2, f3⟩ := hf
  clear b0 sz
  unfold TV at n0 ⊢
  go_enter Try.func6, Try.ntmps6
  go_wp2_with fail
  refine (n0 _).mono ?_
  rintro e w1 ⟨p, rfl, h1, b1, hp⟩
  obtain ⟨d0, d1, d2, d3⟩ := (TB0.out.below b1 (ltOf TB0.out)).cells
  have H1 := Lib.hid h1
  have B1 := Lib.hid b1
  have LP := Lib.hid hp
  clear h1 b1 hp
  go_wp2_with fail
  refine (n0 _).mono ?_
  rintro e w2 ⟨o, rfl, h2, b2, ho⟩
  clear d0 d1 d2 d3
  have D0 : Duo w w2 p o w.heap.size q t k a (new0 t a) (new0 t a) := by
    have s0 := SZ.out
    have s1 := ltOf H1.out
    have s2 := B1.out.size
    have s3 := LP.out
    rw [s0] at s2 s3
    have T1 := TB0.out.below B1.out (ltOf TB0.out)
    have BB := (B0.out.trans (B1.out.mono (by omega))).trans (b2.mono (by omega))
    exact ⟨H1.out.below b2 s1, h2, T1.below b2 (ltOf T1), ⟨G0.out, G0.out, rfl, rfl, rfl, rfl, rfl, Int.le_refl _⟩, BB, by omega, by omega, by omega, by omega, by omega⟩
  have HD0 := Lib.hid D0
  have HA := Lib.hid hA
  clear D0 h2 b2 ho B1 LP H1 SZ B0 G0 n0 TB0 hA
  go_wp2_with fail
  go_loopw [9, 10] (fun n i wr => ∃ (j : Nat) (c d : PP), j ≤ len ∧ j ≤ 100 ∧ i = .int .i64 j ∧ n = .int .i64 c.si ∧ Duo w wr p o w.heap.size q t k a c d) (fun _ i _ => len - (intOf i).toNat)
  case atStart => exact ⟨0, _, _, by omega, by omega, rfl, rfl, HD0.out⟩
  case round =>
    obtain ⟨j, c, d, hj, hj4, rfl, rfl, T⟩ := hrel
    clear HD0
    have T2 := Lib.hid T
    clear T
    by_cases hlt : j < len ∧ j < 100
    · obtain ⟨hlt, hl40⟩ := hlt
      obtain ⟨hA1, hA2, hA3, hA4⟩ := HA.out
      obtain ⟨b, off, rfl, hbb, hc⟩ := hA4 (by omega)
      have c1 := (T2.out.bel.cell (p := ⟨b, off + j * 2, none⟩) hbb).trans (hc j hlt).1
      have c2 := (T2.out.bel.cell (p := ⟨b, off + j * 2 + 1, none⟩) hbb).trans (hc j hlt).2
      have hw0 := (hA1 j).1
      have hw1 := (hA1 j).2
      have hs := hA2 j
      clear hc hA1 hA2 hA4
      generalize what j = wk at *
      generalize slot j = sk at *
      obtain ⟨hs0, hs1⟩ := hs
      have gr : Below wr.heap.size wr (wr.alloc (.cells #[.int .u8 wk, .int .i64 sk] 26)) := (Below.refl _ _).alloc (Nat.le_refl _) _
      have T3 := Lib.hid (T2.out.grow gr)
      have XB : Hid ((wr.alloc (.cells #[.int .u8 wk, .int .i64 sk] 26)).heap[wr.heap.size]? = some (.cells #[.int .u8 wk, .int .i64 sk] 26 (0, 0))) := Lib.hid (heap_alloc_new _ _)
      have lx1 : p ≠ wr.heap.size := Nat.ne_of_lt (ltOf T2.out.hp)
      have lx2 : o ≠ wr.heap.size := Nat.ne_of_lt (ltOf T2.out.ho)
      clear gr
      by_cases hgr : 1073741824 < sk
      · clear hs0
        go_wp2_with fail
        refine (aw _).mono ?_
        rintro e w3 ⟨rfl, b3⟩
        have B3 := Lib.hid (T3.out.bel.trans (b3.mono T3.out.bel.size))
        clear b3
        go_wp2_with fail
        go_ret
        exact ⟨rfl, B3.out⟩
      go_upto_region 10 with fail
      have si0 := T3.out.al.gc.si0
      have si1 := T3.out.al.gc.si1
      have tc := T3.out.al.tc
      generalize (wr.alloc (.cells #[.int .u8 wk, .int .i64 sk] 26)) = wx at T3 XB ⊢
      have x0 : wx.cell? ⟨wr.heap.size, 0, none⟩ = some (.int .u8 wk) := by rw [cellOf XB.out]; rfl
      have x1 : wx.cell? ⟨wr.heap.size, 1, none⟩ = some (.int .i64 sk) := by rw [cellOf XB.out]; rfl
      generalize wr.heap.size = xb at *
      clear c1 c2
      by_cases hw2 : wk % 5 = 2
      · have al := T3.out.al.turn true
        have r1 := fun w h => pBegin_any w p c h T3.out.al.gc
        have r2 := fun w h => pBegin_any w o d h T3.out.al.gd
        rw [al.2] at r2
        have AL := Lib.hid al.1
        clear al
        by_cases hac : c.ac = true
        · have e1 : tnE c true = 9 := by unfold tnE; rw [if_pos hac]
          have HV : Hid ((tnC c true).si = c.si) := Lib.hid (by unfold tnC; rw [if_pos hac])
          rw [e1] at r1 r2
          clear e1 hac
          go_wp2_with fail
          refine (r1 _ T3.out.hp).mono ?_
          rintro e w3 ⟨rfl, h3, o3⟩
          have H3 := Lib.hid h3
          have O3 := Lib.hid o3
          clear h3 o3
          go_wp2_with fail
          refine (r2 _ (T3.out.ho.only O3.out T3.out.ne.symm)).mono ?_
          rintro e w4 ⟨rfl, h4, o4⟩
          have T4 := Lib.hid (T3.out.both H3.out O3.out h4 o4 AL.out)
          clear h4 o4 r1 r2
          have T5 := Lib.hid (T4.out)
          clear H3 O3 T4 AL T3 T2 XB x0 x1
          generalize tnC c true = cn at *
          generalize tnC d true = dn at *
          have s0 := T5.out.al.gc.si0
          have s1 := T5.out.al.gc.si1
          have s2 := T5.out.al.si
          have s3 := T5.out.al.tc
          have s4 := T5.out.al.de
          have s5 := T5.out.al.gc.de.1
          rw [s3] at s1
          rw [HV.out] at s0 s1 s2
          have P1 : Hid (∀ m, Calls Try.prog 12 #[.pointer (some ⟨p, 0, none⟩)] (w4.drewN m) fun e w' => e = .returned (.int .i64 (c.si)) ∧ w4.drewN m = w') := Lib.hid fun m => by have := pSince_any _ p _ (T5.out.drewN m).hp T5.out.al.gc.tr0; rw [HV.out] at this; exact this
          have P2 : Hid (∀ m, Calls Try.prog 12 #[.pointer (some ⟨o, 0, none⟩)] (w4.drewN m) fun e w' => e = .returned (.int .i64 (c.si)) ∧ w4.drewN m = w') := Lib.hid fun m => by have := pSince_any _ o _ (T5.out.drewN m).ho T5.out.al.gd.tr0; rw [s2] at this; exact this
          have P3 : Hid (∀ m, Calls Try.prog 14 #[.pointer (some ⟨p, 0, none⟩)] (w4.drewN m) fun e w' => e = .returned (.int .i64 (cn).de) ∧ w4.drewN m = w') := Lib.hid fun m => pDebt_any _ p _ (T5.out.drewN m).hp T5.out.al.gc.tr0
          have P4 : Hid (∀ m, Calls Try.prog 14 #[.pointer (some ⟨o, 0, none⟩)] (w4.drewN m) fun e w' => e = .returned (.int .i64 (dn).de) ∧ w4.drewN m = w') := Lib.hid fun m => pDebt_any _ o _ (T5.out.drewN m).ho T5.out.al.gd.tr0
          have t1 := T5.out.ht.cells.2.1
          have F1 : decide (t ≤ c.si) = false := decide_eq_false (by omega)
          have F2 : decide ((dn).de < (cn).de) = false := decide_eq_false (by omega)
          have F3 : decide ((cn).de < 0) = false := decide_eq_false (by omega)
          clear s0 s1 s2 s3 s4 s5
          generalize (cn).de = cde at P3 F2 F3
          generalize (dn).de = dde at P4 F2
          go_wp2_with fail
          go_quiet (first | (go_at_call_of 12 (Value.pointer (some (⟨p, 0, none⟩ : Addr))); exact quiet_same (P1.out _)) | (go_at_call_of 12 (Value.pointer (some (⟨o, 0, none⟩ : Addr))); exact quiet_same (P2.out _)) | (go_at_call_of 14 (Value.pointer (some (⟨p, 0, none⟩ : Addr))); exact quiet_same (P3.out _)) | (go_at_call_of 14 (Value.pointer (some (⟨o, 0, none⟩ : Addr))); exact quiet_same (P4.out _)))
          have TF := Lib.hid (T5.out.drewN nq)
          clear P1 P2 P3 P4 F1 F2 F3 t1
          go_wp2_with fail
          go_roundw
          case rel => exact ⟨j + 1, _, _, by omega, by omega, by go_num, int_eq HV.out.symm, TF.out⟩
          case measure => simp [intOf]; omega
        · have e1 : tnE c true = 0 := by unfold tnE; rw [if_neg hac]
          have HV : Hid ((tnC c true).si = 0) := Lib.hid (by unfold tnC; rw [if_neg hac])
          rw [e1] at r1 r2
          clear e1 hac
          go_wp2_with fail
          refine (r1 _ T3.out.hp).mono ?_
          rintro e w3 ⟨rfl, h3, o3⟩
          have H3 := Lib.hid h3
          have O3 := Lib.hid o3
          clear h3 o3
          go_wp2_with fail
          refine (r2 _ (T3.out.ho.only O3.out T3.out.ne.symm)).mono ?_
          rintro e w4 ⟨rfl, h4, o4⟩
          have T4 := Lib.hid (T3.out.both H3.out O3.out h4 o4 AL.out)
          clear h4 o4 r1 r2
          have T5 := Lib.hid (T4.out)
          clear H3 O3 T4 AL T3 T2 XB x0 x1
          generalize tnC c true = cn at *
          generalize tnC d true = dn at *
          have s0 := T5.out.al.gc.si0
          have s1 := T5.out.al.gc.si1
          have s2 := T5.out.al.si
          have s3 := T5.out.al.tc
          have s4 := T5.out.al.de
          have s5 := T5.out.al.gc.de.1
          rw [s3] at s1
          rw [HV.out] at s0 s1 s2
          have P1 : Hid (∀ m, Calls Try.prog 12 #[.pointer (some ⟨p, 0, none⟩)] (w4.drewN m) fun e w' => e = .returned (.int .i64 (0)) ∧ w4.drewN m = w') := Lib.hid fun m => by have := pSince_any _ p _ (T5.out.drewN m).hp T5.out.al.gc.tr0; rw [HV.out] at this; exact this
          have P2 : Hid (∀ m, Calls Try.prog 12 #[.pointer (some ⟨o, 0, none⟩)] (w4.drewN m) fun e w' => e = .returned (.int .i64 (0)) ∧ w4.drewN m = w') := Lib.hid fun m => by have := pSince_any _ o _ (T5.out.drewN m).ho T5.out.al.gd.tr0; rw [s2] at this; exact this
          have P3 : Hid (∀ m, Calls Try.prog 14 #[.pointer (some ⟨p, 0, none⟩)] (w4.drewN m) fun e w' => e = .returned (.int .i64 (cn).de) ∧ w4.drewN m = w') := Lib.hid fun m => pDebt_any _ p _ (T5.out.drewN m).hp T5.out.al.gc.tr0
          have P4 : Hid (∀ m, Calls Try.prog 14 #[.pointer (some ⟨o, 0, none⟩)] (w4.drewN m) fun e w' => e = .returned (.int .i64 (dn).de) ∧ w4.drewN m = w') := Lib.hid fun m => pDebt_any _ o _ (T5.out.drewN m).ho T5.out.al.gd.tr0
          have t1 := T5.out.ht.cells.2.1
          have F1 : decide (t ≤ 0) = false := decide_eq_false (by omega)
          have F2 : decide ((dn).de < (cn).de) = false := decide_eq_false (by omega)
          have F3 : decide ((cn).de < 0) = false := decide_eq_false (by omega)
          clear s0 s1 s2 s3 s4 s5
          generalize (cn).de = cde at P3 F2 F3
          generalize (dn).de = dde at P4 F2
          go_wp2_with fail
          go_quiet (first | (go_at_call_of 12 (Value.pointer (some (⟨p, 0, none⟩ : Addr))); exact quiet_same (P1.out _)) | (go_at_call_of 12 (Value.pointer (some (⟨o, 0, none⟩ : Addr))); exact quiet_same (P2.out _)) | (go_at_call_of 14 (Value.pointer (some (⟨p, 0, none⟩ : Addr))); exact quiet_same (P3.out _)) | (go_at_call_of 14 (Value.pointer (some (⟨o, 0, none⟩ : Addr))); exact quiet_same (P4.out _)))
          have TF := Lib.hid (T5.out.drewN nq)
          clear P1 P2 P3 P4 F1 F2 F3 t1
          go_wp2_with fail
          go_roundw
          case rel => exact ⟨j + 1, _, _, by omega, by omega, by go_num, int_eq HV.out.symm, TF.out⟩
          case measure => simp [intOf]; omega
      have hw2' : (wk % 5 == 2) = false := by rw [beq_eq_false_iff_ne]; exact hw2
      clear hw2
      by_cases hw3 : wk % 5 = 3
      · have al := T3.out.al.turn false
        have r1 := fun w h => pEnd_any w p c h T3.out.al.gc
        have r2 := fun w h => pEnd_any w o d h T3.out.al.gd
        rw [al.2] at r2
        have AL := Lib.hid al.1
        clear al
        by_cases hac : c.ac = false
        · have e1 : tnE c false = 9 := by unfold tnE; rw [if_pos hac]
          have HV : Hid ((tnC c false).si = c.si) := Lib.hid (by unfold tnC; rw [if_pos hac])
          rw [e1] at r1 r2
          clear e1 hac
          go_wp2_with fail
          refine (r1 _ T3.out.hp).mono ?_
          rintro e w3 ⟨rfl, h3, o3⟩
          have H3 := Lib.hid h3
          have O3 := Lib.hid o3
          clear h3 o3
          go_wp2_with fail
          refine (r2 _ (T3.out.ho.only O3.out T3.out.ne.symm)).mono ?_
          rintro e w4 ⟨rfl, h4, o4⟩
          have T4 := Lib.hid (T3.out.both H3.out O3.out h4 o4 AL.out)
          clear h4 o4 r1 r2
          have T5 := Lib.hid (T4.out)
          clear H3 O3 T4 AL T3 T2 XB x0 x1
          generalize tnC c false = cn at *
          generalize tnC d false = dn at *
          have s0 := T5.out.al.gc.si0
          have s1 := T5.out.al.gc.si1
          have s2 := T5.out.al.si
          have s3 := T5.out.al.tc
          have s4 := T5.out.al.de
          have s5 := T5.out.al.gc.de.1
          rw [s3] at s1
          rw [HV.out] at s0 s1 s2
          have P1 : Hid (∀ m, Calls Try.prog 12 #[.pointer (some ⟨p, 0, none⟩)] (w4.drewN m) fun e w' => e = .returned (.int .i64 (c.si)) ∧ w4.drewN m = w') := Lib.hid fun m => by have := pSince_any _ p _ (T5.out.drewN m).hp T5.out.al.gc.tr0; rw [HV.out] at this; exact this
          have P2 : Hid (∀ m, Calls Try.prog 12 #[.pointer (some ⟨o, 0, none⟩)] (w4.drewN m) fun e w' => e = .returned (.int .i64 (c.si)) ∧ w4.drewN m = w') := Lib.hid fun m => by have := pSince_any _ o _ (T5.out.drewN m).ho T5.out.al.gd.tr0; rw [s2] at this; exact this
          have P3 : Hid (∀ m, Calls Try.prog 14 #[.pointer (some ⟨p, 0, none⟩)] (w4.drewN m) fun e w' => e = .returned (.int .i64 (cn).de) ∧ w4.drewN m = w') := Lib.hid fun m => pDebt_any _ p _ (T5.out.drewN m).hp T5.out.al.gc.tr0
          have P4 : Hid (∀ m, Calls Try.prog 14 #[.pointer (some ⟨o, 0, none⟩)] (w4.drewN m) fun e w' => e = .returned (.int .i64 (dn).de) ∧ w4.drewN m = w') := Lib.hid fun m => pDebt_any _ o _ (T5.out.drewN m).ho T5.out.al.gd.tr0
          have t1 := T5.out.ht.cells.2.1
          have F1 : decide (t ≤ c.si) = false := decide_eq_false (by omega)
          have F2 : decide ((dn).de < (cn).de) = false := decide_eq_false (by omega)
          have F3 : decide ((cn).de < 0) = false := decide_eq_false (by omega)
          clear s0 s1 s2 s3 s4 s5
          generalize (cn).de = cde at P3 F2 F3
          generalize (dn).de = dde at P4 F2
          go_wp2_with fail
          go_quiet (first | (go_at_call_of 12 (Value.pointer (some (⟨p, 0, none⟩ : Addr))); exact quiet_same (P1.out _)) | (go_at_call_of 12 (Value.pointer (some (⟨o, 0, none⟩ : Addr))); exact quiet_same (P2.out _)) | (go_at_call_of 14 (Value.pointer (some (⟨p, 0, none⟩ : Addr))); exact quiet_same (P3.out _)) | (go_at_call_of 14 (Value.pointer (some (⟨o, 0, none⟩ : Addr))); exact quiet_same (P4.out _)))
          have TF := Lib.hid (T5.out.drewN nq)
          clear P1 P2 P3 P4 F1 F2 F3 t1
          go_wp2_with fail
          go_roundw
          case rel => exact ⟨j + 1, _, _, by omega, by omega, by go_num, int_eq HV.out.symm, TF.out⟩
          case measure => simp [intOf]; omega
        · have e1 : tnE c false = 0 := by unfold tnE; rw [if_neg hac]
          have HV : Hid ((tnC c false).si = 0) := Lib.hid (by unfold tnC; rw [if_neg hac])
          rw [e1] at r1 r2
          clear e1 hac
          go_wp2_with fail
          refine (r1 _ T3.out.hp).mono ?_
          rintro e w3 ⟨rfl, h3, o3⟩
          have H3 := Lib.hid h3
          have O3 := Lib.hid o3
          clear h3 o3
          go_wp2_with fail
          refine (r2 _ (T3.out.ho.only O3.out T3.out.ne.symm)).mono ?_
          rintro e w4 ⟨rfl, h4, o4⟩
          have T4 := Lib.hid (T3.out.both H3.out O3.out h4 o4 AL.out)
          clear h4 o4 r1 r2
          have T5 := Lib.hid (T4.out)
          clear H3 O3 T4 AL T3 T2 XB x0 x1
          generalize tnC c false = cn at *
          generalize tnC d false = dn at *
          have s0 := T5.out.al.gc.si0
          have s1 := T5.out.al.gc.si1
          have s2 := T5.out.al.si
          have s3 := T5.out.al.tc
          have s4 := T5.out.al.de
          have s5 := T5.out.al.gc.de.1
          rw [s3] at s1
          rw [HV.out] at s0 s1 s2
          have P1 : Hid (∀ m, Calls Try.prog 12 #[.pointer (some ⟨p, 0, none⟩)] (w4.drewN m) fun e w' => e = .returned (.int .i64 (0)) ∧ w4.drewN m = w') := Lib.hid fun m => by have := pSince_any _ p _ (T5.out.drewN m).hp T5.out.al.gc.tr0; rw [HV.out] at this; exact this
          have P2 : Hid (∀ m, Calls Try.prog 12 #[.pointer (some ⟨o, 0, none⟩)] (w4.drewN m) fun e w' => e = .returned (.int .i64 (0)) ∧ w4.drewN m = w') := Lib.hid fun m => by have := pSince_any _ o _ (T5.out.drewN m).ho T5.out.al.gd.tr0; rw [s2] at this; exact this
          have P3 : Hid (∀ m, Calls Try.prog 14 #[.pointer (some ⟨p, 0, none⟩)] (w4.drewN m) fun e w' => e = .returned (.int .i64 (cn).de) ∧ w4.drewN m = w') := Lib.hid fun m => pDebt_any _ p _ (T5.out.drewN m).hp T5.out.al.gc.tr0
          have P4 : Hid (∀ m, Calls Try.prog 14 #[.pointer (some ⟨o, 0, none⟩)] (w4.drewN m) fun e w' => e = .returned (.int .i64 (dn).de) ∧ w4.drewN m = w') := Lib.hid fun m => pDebt_any _ o _ (T5.out.drewN m).ho T5.out.al.gd.tr0
          have t1 := T5.out.ht.cells.2.1
          have F1 : decide (t ≤ 0) = false := decide_eq_false (by omega)
          have F2 : decide ((dn).de < (cn).de) = false := decide_eq_false (by omega)
          have F3 : decide ((cn).de < 0) = false := decide_eq_false (by omega)
          clear s0 s1 s2 s3 s4 s5
          generalize (cn).de = cde at P3 F2 F3
          generalize (dn).de = dde at P4 F2
          go_wp2_with fail
          go_quiet (first | (go_at_call_of 12 (Value.pointer (some (⟨p, 0, none⟩ : Addr))); exact quiet_same (P1.out _)) | (go_at_call_of 12 (Value.pointer (some (⟨o, 0, none⟩ : Addr))); exact quiet_same (P2.out _)) | (go_at_call_of 14 (Value.pointer (some (⟨p, 0, none⟩ : Addr))); exact quiet_same (P3.out _)) | (go_at_call_of 14 (Value.pointer (some (⟨o, 0, none⟩ : Addr))); exact quiet_same (P4.out _)))
          have TF := Lib.hid (T5.out.drewN nq)
          clear P1 P2 P3 P4 F1 F2 F3 t1
          go_wp2_with fail
          go_roundw
          case rel => exact ⟨j + 1, _, _, by omega, by omega, by go_num, int_eq HV.out.symm, TF.out⟩
          case measure => simp [intOf]; omega
      have hw3' : (wk % 5 == 3) = false := by rw [beq_eq_false_iff_ne]; exact hw3
      clear hw3
      by_cases hw4 : wk % 5 = 4
      · have al := T3.out.al.pay sk
        have r1 := fun w h => pPay_any w p c sk h T3.out.al.gc ⟨hs0, hs1⟩
        have HV : Hid ((payC c sk).si = c.si) := Lib.hid rfl
        go_wp2_with fail
        refine (r1 _ T3.out.hp).mono ?_
        rintro e w3 ⟨rfl, h3, o3⟩
        have T5 := Lib.hid (T3.out.one h3 o3 al)
        clear h3 o3 al r1 T3 T2 XB x0 x1
        generalize payC c sk = cn at *
        have s0 := T5.out.al.gc.si0
        have s1 := T5.out.al.gc.si1
        have s2 := T5.out.al.si
        have s3 := T5.out.al.tc
        have s4 := T5.out.al.de
        have s5 := T5.out.al.gc.de.1
        rw [s3] at s1
        rw [HV.out] at s0 s1 s2
        have P1 : Hid (∀ m, Calls Try.prog 12 #[.pointer (some ⟨p, 0, none⟩)] (w3.drewN m) fun e w' => e = .returned (.int .i64 (c.si)) ∧ w3.drewN m = w') := Lib.hid fun m => by have := pSince_any _ p _ (T5.out.drewN m).hp T5.out.al.gc.tr0; rw [HV.out] at this; exact this
        have P2 : Hid (∀ m, Calls Try.prog 12 #[.pointer (some ⟨o, 0, none⟩)] (w3.drewN m) fun e w' => e = .returned (.int .i64 (c.si)) ∧ w3.drewN m = w') := Lib.hid fun m => by have := pSince_any _ o _ (T5.out.drewN m).ho T5.out.al.gd.tr0; rw [s2] at this; exact this
        have P3 : Hid (∀ m, Calls Try.prog 14 #[.pointer (some ⟨p, 0, none⟩)] (w3.drewN m) fun e w' => e = .returned (.int .i64 (cn).de) ∧ w3.drewN m = w') := Lib.hid fun m => pDebt_any _ p _ (T5.out.drewN m).hp T5.out.al.gc.tr0
        have P4 : Hid (∀ m, Calls Try.prog 14 #[.pointer (some ⟨o, 0, none⟩)] (w3.drewN m) fun e w' => e = .returned (.int .i64 (d).de) ∧ w3.drewN m = w') := Lib.hid fun m => pDebt_any _ o _ (T5.out.drewN m).ho T5.out.al.gd.tr0
        have t1 := T5.out.ht.cells.2.1
        have F1 : decide (t ≤ c.si) = false := decide_eq_false (by omega)
        have F2 : decide ((d).de < (cn).de) = false := decide_eq_false (by omega)
        have F3 : decide ((cn).de < 0) = false := decide_eq_false (by omega)
        clear s0 s1 s2 s3 s4 s5
        generalize (cn).de = cde at P3 F2 F3
        generalize (d).de = dde at P4 F2
        go_wp2_with fail
        go_quiet (first | (go_at_call_of 12 (Value.pointer (some (⟨p, 0, none⟩ : Addr))); exact quiet_same (P1.out _)) | (go_at_call_of 12 (Value.pointer (some (⟨o, 0, none⟩ : Addr))); exact quiet_same (P2.out _)) | (go_at_call_of 14 (Value.pointer (some (⟨p, 0, none⟩ : Addr))); exact quiet_same (P3.out _)) | (go_at_call_of 14 (Value.pointer (some (⟨o, 0, none⟩ : Addr))); exact quiet_same (P4.out _)))
        have TF := Lib.hid (T5.out.drewN nq)
        clear P1 P2 P3 P4 F1 F2 F3 t1
        go_wp2_with fail
        go_roundw
        case rel => exact ⟨j + 1, _, _, by omega, by omega, by go_num, int_eq HV.out.symm, TF.out⟩
        case measure => simp [intOf]; omega
      have hw4' : (wk % 5 == 4) = false := by rw [beq_eq_false_iff_ne]; exact hw4
      clear hw4
      have al := T3.out.al.ask sk
      have r0 := pActive_any wx p c T3.out.hp T3.out.al.gc.tr0
      have r1 := fun w h => pAsk_any w p c sk h T3.out.al.gc hs1
      have r2 := fun w h => pAsk_any w o d sk h T3.out.al.gd hs1
      rw [al.2] at r2
      have AL := Lib.hid al.1
      clear al
      by_cases hn : sk < 1
      · have e1 : askE sk = 2 := by unfold askE; rw [if_pos hn]
        have HV : Hid ((askC c sk).si = c.si) := Lib.hid (by unfold askC; rw [if_pos hn])
        rw [e1] at r1 r2
        clear e1
        generalize askD c sk = dd at *
        go_wp2_with fail
        refine r0.mono ?_
        rintro e w' ⟨rfl, rfl⟩
        go_wp2_with fail
        refine (r1 _ T3.out.hp).mono ?_
        rintro e w3 ⟨rfl, h3, o3⟩
        have x1' : w3.cell? ⟨xb, 1, none⟩ = some (.int .i64 sk) := by rw [cellOf ((o3.block xb (ltOf XB.out) lx1.symm).trans XB.out)]; rfl
        have H3 := Lib.hid h3
        have O3 := Lib.hid o3
        clear h3 o3 x0 x1
        go_wp2_with fail
        refine (r2 _ (T3.out.ho.only O3.out T3.out.ne.symm)).mono ?_
        rintro e w4 ⟨rfl, h4, o4⟩
        have T5 := Lib.hid (T3.out.both H3.out O3.out h4 o4 AL.out)
        clear h4 o4 r1 r2 r0 H3 O3 AL T3 T2 XB x1'
        go_wp2_with fail
        go_roundw
        case rel => exact ⟨j + 1, _, _, by omega, by omega, by go_num, int_eq HV.out.symm, T5.out⟩
        case measure => simp [intOf]; omega
      have n1 : 1 ≤ sk := by omega
      have e1 : askE sk = 0 := by unfold askE; rw [if_neg hn]
      rw [e1] at r1 r2
      clear e1 hn
      have cl : clip (c.si + sk) = c.si + sk := clip_of (by omega) (by have := T3.out.al.gc.tr1; omega)
      have tr1 := T3.out.al.gc.tr1
      by_cases hdue : c.si + sk < t
      · cases hac : c.ac
        · have e2 : askD c sk = 0 := by have := (ask_lo (c := c) (n := sk) n1 (by rw [cl]; omega)).1; exact this
          have HV : Hid ((askC c sk).si = c.si + sk) := Lib.hid (by have := (ask_lo (c := c) (n := sk) n1 (by rw [cl]; omega)).2; rw [this]; exact cl)
          rw [e2] at r1 r2
          rw [hac] at r0
          clear e2 cl hac
          go_wp2_with fail
          refine r0.mono ?_
          rintro e w' ⟨rfl, rfl⟩
          go_wp2_with fail
          refine (r1 _ T3.out.hp).mono ?_
          rintro e w3 ⟨rfl, h3, o3⟩
          have xk := (o3.block xb (ltOf XB.out) lx1.symm).trans XB.out
          have x1' : w3.cell? ⟨xb, 1, none⟩ = some (.int .i64 sk) := by rw [cellOf xk]; rfl
          have XK := Lib.hid xk
          have H3 := Lib.hid h3
          have O3 := Lib.hid o3
          clear h3 o3 x0 x1 xk
          go_wp2_with fail
          refine (r2 _ (T3.out.ho.only O3.out T3.out.ne.symm)).mono ?_
          rintro e w4 ⟨rfl, h4, o4⟩
          have x2' : w4.cell? ⟨xb, 1, none⟩ = some (.int .i64 sk) := by rw [cellOf ((o4.block xb (ltOf XK.out) lx2.symm).trans XK.out)]; rfl
          have T5 := Lib.hid (T3.out.both H3.out O3.out h4 o4 AL.out)
          have tt := T5.out.ht.cells.2.1
          clear h4 o4 r1 r2 r0 H3 O3 AL T3 T2 XB x1' XK
          generalize askC c sk = cn at *
          generalize askC d sk = dn at *
          have s0 := T5.out.al.gc.si0
          have s1 := T5.out.al.gc.si1
          have s2 := T5.out.al.si
          have s3 := T5.out.al.tc
          have s4 := T5.out.al.de
          have s5 := T5.out.al.gc.de.1
          rw [s3] at s1
          rw [HV.out] at s0 s1 s2
          have P1 : Hid (∀ m, Calls Try.prog 12 #[.pointer (some ⟨p, 0, none⟩)] (w4.drewN m) fun e w' => e = .returned (.int .i64 (c.si + sk)) ∧ w4.drewN m = w') := Lib.hid fun m => by have := pSince_any _ p _ (T5.out.drewN m).hp T5.out.al.gc.tr0; rw [HV.out] at this; exact this
          have P2 : Hid (∀ m, Calls Try.prog 12 #[.pointer (some ⟨o, 0, none⟩)] (w4.drewN m) fun e w' => e = .returned (.int .i64 (c.si + sk)) ∧ w4.drewN m = w') := Lib.hid fun m => by have := pSince_any _ o _ (T5.out.drewN m).ho T5.out.al.gd.tr0; rw [s2] at this; exact this
          have P3 : Hid (∀ m, Calls Try.prog 14 #[.pointer (some ⟨p, 0, none⟩)] (w4.drewN m) fun e w' => e = .returned (.int .i64 (cn).de) ∧ w4.drewN m = w') := Lib.hid fun m => pDebt_any _ p _ (T5.out.drewN m).hp T5.out.al.gc.tr0
          have P4 : Hid (∀ m, Calls Try.prog 14 #[.pointer (some ⟨o, 0, none⟩)] (w4.drewN m) fun e w' => e = .returned (.int .i64 (dn).de) ∧ w4.drewN m = w') := Lib.hid fun m => pDebt_any _ o _ (T5.out.drewN m).ho T5.out.al.gd.tr0
          have t1 := T5.out.ht.cells.2.1
          have F1 : decide (t ≤ c.si + sk) = false := decide_eq_false (by omega)
          have F2 : decide ((dn).de < (cn).de) = false := decide_eq_false (by omega)
          have F3 : decide ((cn).de < 0) = false := decide_eq_false (by omega)
          clear s0 s1 s2 s3 s4 s5
          generalize (cn).de = cde at P3 F2 F3
          generalize (dn).de = dde at P4 F2
          go_wp2_with fail
          go_quiet (first | (go_at_call_of 12 (Value.pointer (some (⟨p, 0, none⟩ : Addr))); exact quiet_same (P1.out _)) | (go_at_call_of 12 (Value.pointer (some (⟨o, 0, none⟩ : Addr))); exact quiet_same (P2.out _)) | (go_at_call_of 14 (Value.pointer (some (⟨p, 0, none⟩ : Addr))); exact quiet_same (P3.out _)) | (go_at_call_of 14 (Value.pointer (some (⟨o, 0, none⟩ : Addr))); exact quiet_same (P4.out _)))
          have TF := Lib.hid (T5.out.drewN nq)
          clear P1 P2 P3 P4 F1 F2 F3 t1
          go_wp2_with fail
          go_roundw
          case rel => exact ⟨j + 1, _, _, by omega, by omega, by go_num, int_eq HV.out.symm, TF.out⟩
          case measure => simp [intOf]; omega
        · have e2 : askD c sk = 0 := by have := (ask_lo (c := c) (n := sk) n1 (by rw [cl]; omega)).1; exact this
          have HV : Hid ((askC c sk).si = c.si + sk) := Lib.hid (by have := (ask_lo (c := c) (n := sk) n1 (by rw [cl]; omega)).2; rw [this]; exact cl)
          rw [e2] at r1 r2
          rw [hac] at r0
          clear e2 cl hac
          go_wp2_with fail
          refine r0.mono ?_
          rintro e w' ⟨rfl, rfl⟩
          go_wp2_with fail
          refine (r1 _ T3.out.hp).mono ?_
          rintro e w3 ⟨rfl, h3, o3⟩
          have xk := (o3.block xb (ltOf XB.out) lx1.symm).trans XB.out
          have x1' : w3.cell? ⟨xb, 1, none⟩ = some (.int .i64 sk) := by rw [cellOf xk]; rfl
          have XK := Lib.hid xk
          have H3 := Lib.hid h3
          have O3 := Lib.hid o3
          clear h3 o3 x0 x1 xk
          go_wp2_with fail
          refine (r2 _ (T3.out.ho.only O3.out T3.out.ne.symm)).mono ?_
          rintro e w4 ⟨rfl, h4, o4⟩
          have x2' : w4.cell? ⟨xb, 1, none⟩ = some (.int .i64 sk) := by rw [cellOf ((o4.block xb (ltOf XK.out) lx2.symm).trans XK.out)]; rfl
          have T5 := Lib.hid (T3.out.both H3.out O3.out h4 o4 AL.out)
          have tt := T5.out.ht.cells.2.1
          clear h4 o4 r1 r2 r0 H3 O3 AL T3 T2 XB x1' XK
          generalize askC c sk = cn at *
          generalize askC d sk = dn at *
          have s0 := T5.out.al.gc.si0
          have s1 := T5.out.al.gc.si1
          have s2 := T5.out.al.si
          have s3 := T5.out.al.tc
          have s4 := T5.out.al.de
          have s5 := T5.out.al.gc.de.1
          rw [s3] at s1
          rw [HV.out] at s0 s1 s2
          have P1 : Hid (∀ m, Calls Try.prog 12 #[.pointer (some ⟨p, 0, none⟩)] (w4.drewN m) fun e w' => e = .returned (.int .i64 (c.si + sk)) ∧ w4.drewN m = w') := Lib.hid fun m => by have := pSince_any _ p _ (T5.out.drewN m).hp T5.out.al.gc.tr0; rw [HV.out] at this; exact this
          have P2 : Hid (∀ m, Calls Try.prog 12 #[.pointer (some ⟨o, 0, none⟩)] (w4.drewN m) fun e w' => e = .returned (.int .i64 (c.si + sk)) ∧ w4.drewN m = w') := Lib.hid fun m => by have := pSince_any _ o _ (T5.out.drewN m).ho T5.out.al.gd.tr0; rw [s2] at this; exact this
          have P3 : Hid (∀ m, Calls Try.prog 14 #[.pointer (some ⟨p, 0, none⟩)] (w4.drewN m) fun e w' => e = .returned (.int .i64 (cn).de) ∧ w4.drewN m = w') := Lib.hid fun m => pDebt_any _ p _ (T5.out.drewN m).hp T5.out.al.gc.tr0
          have P4 : Hid (∀ m, Calls Try.prog 14 #[.pointer (some ⟨o, 0, none⟩)] (w4.drewN m) fun e w' => e = .returned (.int .i64 (dn).de) ∧ w4.drewN m = w') := Lib.hid fun m => pDebt_any _ o _ (T5.out.drewN m).ho T5.out.al.gd.tr0
          have t1 := T5.out.ht.cells.2.1
          have F1 : decide (t ≤ c.si + sk) = false := decide_eq_false (by omega)
          have F2 : decide ((dn).de < (cn).de) = false := decide_eq_false (by omega)
          have F3 : decide ((cn).de < 0) = false := decide_eq_false (by omega)
          clear s0 s1 s2 s3 s4 s5
          generalize (cn).de = cde at P3 F2 F3
          generalize (dn).de = dde at P4 F2
          go_wp2_with fail
          go_quiet (first | (go_at_call_of 12 (Value.pointer (some (⟨p, 0, none⟩ : Addr))); exact quiet_same (P1.out _)) | (go_at_call_of 12 (Value.pointer (some (⟨o, 0, none⟩ : Addr))); exact quiet_same (P2.out _)) | (go_at_call_of 14 (Value.pointer (some (⟨p, 0, none⟩ : Addr))); exact quiet_same (P3.out _)) | (go_at_call_of 14 (Value.pointer (some (⟨o, 0, none⟩ : Addr))); exact quiet_same (P4.out _)))
          have TF := Lib.hid (T5.out.drewN nq)
          clear P1 P2 P3 P4 F1 F2 F3 t1
          go_wp2_with fail
          go_roundw
          case rel => exact ⟨j + 1, _, _, by omega, by omega, by go_num, int_eq HV.out.symm, TF.out⟩
          case measure => simp [intOf]; omega
      · cases hac : c.ac
        · have e2 : askD c sk = 1 := by have := (ask_off (c := c) (n := sk) n1 (by rw [cl]; omega) hac).1; exact this
          have HV : Hid ((askC c sk).si = 0) := Lib.hid (by have := (ask_off (c := c) (n := sk) n1 (by rw [cl]; omega) hac).2; rw [this]; rfl)
          rw [e2] at r1 r2
          rw [hac] at r0
          clear e2 cl hac
          go_wp2_with fail
          refine r0.mono ?_
          rintro e w' ⟨rfl, rfl⟩
          go_wp2_with fail
          refine (r1 _ T3.out.hp).mono ?_
          rintro e w3 ⟨rfl, h3, o3⟩
          have xk := (o3.block xb (ltOf XB.out) lx1.symm).trans XB.out
          have x1' : w3.cell? ⟨xb, 1, none⟩ = some (.int .i64 sk) := by rw [cellOf xk]; rfl
          have XK := Lib.hid xk
          have H3 := Lib.hid h3
          have O3 := Lib.hid o3
          clear h3 o3 x0 x1 xk
          go_wp2_with fail
          refine (r2 _ (T3.out.ho.only O3.out T3.out.ne.symm)).mono ?_
          rintro e w4 ⟨rfl, h4, o4⟩
          have x2' : w4.cell? ⟨xb, 1, none⟩ = some (.int .i64 sk) := by rw [cellOf ((o4.block xb (ltOf XK.out) lx2.symm).trans XK.out)]; rfl
          have T5 := Lib.hid (T3.out.both H3.out O3.out h4 o4 AL.out)
          have tt := T5.out.ht.cells.2.1
          clear h4 o4 r1 r2 r0 H3 O3 AL T3 T2 XB x1' XK
          generalize askC c sk = cn at *
          generalize askC d sk = dn at *
          have s0 := T5.out.al.gc.si0
          have s1 := T5.out.al.gc.si1
          have s2 := T5.out.al.si
          have s3 := T5.out.al.tc
          have s4 := T5.out.al.de
          have s5 := T5.out.al.gc.de.1
          rw [s3] at s1
          rw [HV.out] at s0 s1 s2
          have P1 : Hid (∀ m, Calls Try.prog 12 #[.pointer (some ⟨p, 0, none⟩)] (w4.drewN m) fun e w' => e = .returned (.int .i64 (0)) ∧ w4.drewN m = w') := Lib.hid fun m => by have := pSince_any _ p _ (T5.out.drewN m).hp T5.out.al.gc.tr0; rw [HV.out] at this; exact this
          have P2 : Hid (∀ m, Calls Try.prog 12 #[.pointer (some ⟨o, 0, none⟩)] (w4.drewN m) fun e w' => e = .returned (.int .i64 (0)) ∧ w4.drewN m = w') := Lib.hid fun m => by have := pSince_any _ o _ (T5.out.drewN m).ho T5.out.al.gd.tr0; rw [s2] at this; exact this
          have P3 : Hid (∀ m, Calls Try.prog 14 #[.pointer (some ⟨p, 0, none⟩)] (w4.drewN m) fun e w' => e = .returned (.int .i64 (cn).de) ∧ w4.drewN m = w') := Lib.hid fun m => pDebt_any _ p _ (T5.out.drewN m).hp T5.out.al.gc.tr0
          have P4 : Hid (∀ m, Calls Try.prog 14 #[.pointer (some ⟨o, 0, none⟩)] (w4.drewN m) fun e w' => e = .returned (.int .i64 (dn).de) ∧ w4.drewN m = w') := Lib.hid fun m => pDebt_any _ o _ (T5.out.drewN m).ho T5.out.al.gd.tr0
          have t1 := T5.out.ht.cells.2.1
          have F1 : decide (t ≤ 0) = false := decide_eq_false (by omega)
          have F2 : decide ((dn).de < (cn).de) = false := decide_eq_false (by omega)
          have F3 : decide ((cn).de < 0) = false := decide_eq_false (by omega)
          clear s0 s1 s2 s3 s4 s5
          generalize (cn).de = cde at P3 F2 F3
          generalize (dn).de = dde at P4 F2
          go_wp2_with fail
          go_quiet (first | (go_at_call_of 12 (Value.pointer (some (⟨p, 0, none⟩ : Addr))); exact quiet_same (P1.out _)) | (go_at_call_of 12 (Value.pointer (some (⟨o, 0, none⟩ : Addr))); exact quiet_same (P2.out _)) | (go_at_call_of 14 (Value.pointer (some (⟨p, 0, none⟩ : Addr))); exact quiet_same (P3.out _)) | (go_at_call_of 14 (Value.pointer (some (⟨o, 0, none⟩ : Addr))); exact quiet_same (P4.out _)))
          have TF := Lib.hid (T5.out.drewN nq)
          clear P1 P2 P3 P4 F1 F2 F3 t1
          go_wp2_with fail
          go_roundw
          case rel => exact ⟨j + 1, _, _, by omega, by omega, by go_num, int_eq HV.out.symm, TF.out⟩
          case measure => simp [intOf]; omega
        · have e2 : askD c sk = 2 := by have := (ask_on (c := c) (n := sk) n1 (by rw [cl]; omega) hac).1; exact this
          have HV : Hid ((askC c sk).si = 0) := Lib.hid (by have := (ask_on (c := c) (n := sk) n1 (by rw [cl]; omega) hac).2; rw [this]; rfl)
          rw [e2] at r1 r2
          rw [hac] at r0
          clear e2 cl hac
          go_wp2_with fail
          refine r0.mono ?_
          rintro e w' ⟨rfl, rfl⟩
          go_wp2_with fail
          refine (r1 _ T3.out.hp).mono ?_
          rintro e w3 ⟨rfl, h3, o3⟩
          have xk := (o3.block xb (ltOf XB.out) lx1.symm).trans XB.out
          have x1' : w3.cell? ⟨xb, 1, none⟩ = some (.int .i64 sk) := by rw [cellOf xk]; rfl
          have XK := Lib.hid xk
          have H3 := Lib.hid h3
          have O3 := Lib.hid o3
          clear h3 o3 x0 x1 xk
          go_wp2_with fail
          refine (r2 _ (T3.out.ho.only O3.out T3.out.ne.symm)).mono ?_
          rintro e w4 ⟨rfl, h4, o4⟩
          have x2' : w4.cell? ⟨xb, 1, none⟩ = some (.int .i64 sk) := by rw [cellOf ((o4.block xb (ltOf XK.out) lx2.symm).trans XK.out)]; rfl
          have T5 := Lib.hid (T3.out.both H3.out O3.out h4 o4 AL.out)
          have tt := T5.out.ht.cells.2.1
          clear h4 o4 r1 r2 r0 H3 O3 AL T3 T2 XB x1' XK
          generalize askC c sk = cn at *
          generalize askC d sk = dn at *
          have s0 := T5.out.al.gc.si0
          have s1 := T5.out.al.gc.si1
          have s2 := T5.out.al.si
          have s3 := T5.out.al.tc
          have s4 := T5.out.al.de
          have s5 := T5.out.al.gc.de.1
          rw [s3] at s1
          rw [HV.out] at s0 s1 s2
          have P1 : Hid (∀ m, Calls Try.prog 12 #[.pointer (some ⟨p, 0, none⟩)] (w4.drewN m) fun e w' => e = .returned (.int .i64 (0)) ∧ w4.drewN m = w') := Lib.hid fun m => by have := pSince_any _ p _ (T5.out.drewN m).hp T5.out.al.gc.tr0; rw [HV.out] at this; exact this
          have P2 : Hid (∀ m, Calls Try.prog 12 #[.pointer (some ⟨o, 0, none⟩)] (w4.drewN m) fun e w' => e = .returned (.int .i64 (0)) ∧ w4.drewN m = w') := Lib.hid fun m => by have := pSince_any _ o _ (T5.out.drewN m).ho T5.out.al.gd.tr0; rw [s2] at this; exact this
          have P3 : Hid (∀ m, Calls Try.prog 14 #[.pointer (some ⟨p, 0, none⟩)] (w4.drewN m) fun e w' => e = .returned (.int .i64 (cn).de) ∧ w4.drewN m = w') := Lib.hid fun m => pDebt_any _ p _ (T5.out.drewN m).hp T5.out.al.gc.tr0
          have P4 : Hid (∀ m, Calls Try.prog 14 #[.pointer (some ⟨o, 0, none⟩)] (w4.drewN m) fun e w' => e = .returned (.int .i64 (dn).de) ∧ w4.drewN m = w') := Lib.hid fun m => pDebt_any _ o _ (T5.out.drewN m).ho T5.out.al.gd.tr0
          have t1 := T5.out.ht.cells.2.1
          have F1 : decide (t ≤ 0) = false := decide_eq_false (by omega)
          have F2 : decide ((dn).de < (cn).de) = false := decide_eq_false (by omega)
          have F3 : decide ((cn).de < 0) = false := decide_eq_false (by omega)
          clear s0 s1 s2 s3 s4 s5
          generalize (cn).de = cde at P3 F2 F3
          generalize (dn).de = dde at P4 F2
          go_wp2_with fail
          go_quiet (first | (go_at_call_of 12 (Value.pointer (some (⟨p, 0, none⟩ : Addr))); exact quiet_same (P1.out _)) | (go_at_call_of 12 (Value.pointer (some (⟨o, 0, none⟩ : Addr))); exact quiet_same (P2.out _)) | (go_at_call_of 14 (Value.pointer (some (⟨p, 0, none⟩ : Addr))); exact quiet_same (P3.out _)) | (go_at_call_of 14 (Value.pointer (some (⟨o, 0, none⟩ : Addr))); exact quiet_same (P4.out _)))
          have TF := Lib.hid (T5.out.drewN nq)
          clear P1 P2 P3 P4 F1 F2 F3 t1
          go_wp2_with fail
          go_roundw
          case rel => exact ⟨j + 1, _, _, by omega, by omega, by go_num, int_eq HV.out.symm, TF.out⟩
          case measure => simp [intOf]; omega
    · have hlt' : len ≤ j ∨ (j < len ∧ 100 ≤ j) := by omega
      clear hlt HA
      have BZ : Hid (Below w.heap.size w (wr.alloc (.cells #[.int .i64 0, .int .i64 0, .int .i64 0, .int .i64 0, .int .i64 0, .int .i64 0, .bool false] 50))) := Lib.hid (T2.out.bel.alloc T2.out.bel.size _)
      have HZ : Hid (Pc (wr.alloc (.cells #[.int .i64 0, .int .i64 0, .int .i64 0, .int .i64 0, .int .i64 0, .int .i64 0, .bool false] 50)) wr.heap.size Z0) := Lib.hid (heap_alloc_new _ _)
      have n1 := fun w => pAsk_none w (.pointer none) 1 (none_nil w)
      have n2 := fun w => pBegin_none w (.pointer none) (none_nil w)
      have n3 := fun w => pPay_none w (.pointer none) 1 (none_nil w)
      have n4 := fun w => pDebt_none w (.pointer none) (none_nil w)
      have n5 := fun w => pTotal_none w (.pointer none) (none_nil w)
      have n6 := fun w => pActive_none w (.pointer none) (none_nil w)
      have n7 := fun w => pCopy_none w (.pointer none) (none_nil w)
      have z1 := pAsk_none _ (.pointer (some ⟨wr.heap.size, 0, none⟩)) 1 (none_zero _ _ _ HZ.out rfl)
      have z2 := pEnd_none _ _ _ HZ.out rfl
      clear T2
      rcases hlt' with hl | ⟨hl, hl'⟩
      all_goals
        go_wp2_with fail
        refine (n1 _).mono ?_
        rintro e w' ⟨rfl, rfl⟩
        go_wp2_with fail
        refine z1.mono ?_
        rintro e w' ⟨rfl, rfl⟩
        go_wp2_with fail
        refine (n2 _).mono ?_
        rintro e w' ⟨rfl, rfl⟩
        go_wp2_with fail
        refine z2.mono ?_
        rintro e w5 ⟨rfl, b5⟩
        have h5 := HZ.out.below b5 (ltOf HZ.out)
        have z3 := pSince_none _ (.pointer (some ⟨wr.heap.size, 0, none⟩)) (none_zero _ _ _ h5 rfl)
        have z4 := pCycles_none _ (.pointer (some ⟨wr.heap.size, 0, none⟩)) (none_zero _ _ _ h5 rfl)
        have B5 := Lib.hid (BZ.out.trans (b5.mono BZ.out.size))
        clear b5 h5
        go_wp2_with fail
        refine (n3 _).mono ?_
        rintro e w' ⟨rfl, rfl⟩
        go_wp2_with fail
        refine (n4 _).mono ?_
        rintro e w' ⟨rfl, rfl⟩
        go_wp2_with fail
        refine z3.mono ?_
        rintro e w' ⟨rfl, rfl⟩
        go_wp2_with fail
        refine (n5 _).mono ?_
        rintro e w' ⟨rfl, rfl⟩
        go_wp2_with fail
        refine z4.mono ?_
        rintro e w' ⟨rfl, rfl⟩
        go_wp2_with fail
        refine (n6 _).mono ?_
        rintro e w' ⟨rfl, rfl⟩
        go_wp2_with fail
        refine (n7 _).mono ?_
        rintro e w' ⟨rfl, rfl⟩
        go_wp2_with fail
        refine (aw _).mono ?_
        rintro e w6 ⟨rfl, b6⟩
        have B6 := Lib.hid (B5.out.trans (b6.mono B5.out.size))
        clear b6
        go_wp2_with fail
        go_ret
        exact ⟨rfl, B6.out⟩
theorem turns_walk (w : World) (q t k a : Int) (A : Option Addr) (len cap : Nat) (what slot : Nat → Int) (hA : Acts w A len what slot) :
    Calls Try.prog 6 #[TV q t k a, .slice A len cap] w fun e w' => e = .returned (.bool true) ∧ Below w.heap.size w w' := by
  by_cases hf : Fit t a
  · exact turns_in w q t k a A len cap what slot hf hA
  · exact turns_out w q t k a A len cap hf
end Go.Proofs.Ytembhdlhhhdpiaa
