/- The walk of PaceParts. -/
import Derived.Test.YtembhdlhhhdpiaaPaceActs
namespace Go.Proofs.Ytembhdlhhhdpiaa
open Go.RowKit SatPlain

theorem parts_out (w : World) (q t k a xw xn : Int) (A : Option Addr) (len cap : Nat) (hf : ¬ Fit t a) :
    Calls Try.prog 3 #[TV q t k a, .slice A len cap, .agg #[.int .u8 xw, .int .i64 xn]] w fun e w' => e = .returned (.bool true) ∧ Below w.heap.size w w' := by
  have n0 := fun w => pNew_out w q t k a hf
  have aw := fun w => awake_any w
  have b0 : Below w.heap.size w ((w.alloc (.cells #[.int .i64 q, .int .i64 t, .int .i64 k, .int .i64 a] 23)).alloc (.cells #[.int .u8 xw, .int .i64 xn] 26)) := both _ _ _
  have TB0 := Lib.hid ((TB.new w q t k a).alloc (.cells #[.int .u8 xw, .int .i64 xn] 26))
  have B0 := Lib.hid b0
  clear b0 hf
  unfold TV at n0 ⊢
  go_enter Try.func3, Try.ntmps3
  go_wp2_with fail
  refine (n0 _).mono ?_
  rintro e w1 ⟨rfl, b1⟩
  obtain ⟨d0, d1, d2, d3⟩ := (TB0.out.below b1 (ltOf TB0.out)).cells
  have B1 := Lib.hid (B0.out.trans (b1.mono (B0.out.size)))
  clear b1 B0
  go_wp2_with fail
  refine (n0 _).mono ?_
  rintro e w2 ⟨rfl, b2⟩
  clear d0 d1 d2 d3 TB0
  have B2 := Lib.hid (B1.out.trans (b2.mono (B1.out.size)))
  clear b2 B1
  go_wp2_with fail
  refine (aw _).mono ?_
  rintro e w3 ⟨rfl, b3⟩
  go_wp2_with fail
  go_ret
  exact ⟨rfl, B2.out.trans (b3.mono B2.out.size)⟩

/-- two pacers of the same counts, and the act's own variable -/
structure Twins (w0 wr : World) (p o xb : Nat) (xw xn : Int) (c : PP) : Prop where
  hp : Pc wr p c
  ho : Pc wr o c
  good : c.Good
  hx : wr.heap[xb]? = some (.cells #[.int .u8 xw, .int .i64 xn] 26 (0, 0))
  bel : Below w0.heap.size w0 wr
  ne : p ≠ o
  lp : w0.heap.size + 2 ≤ p
  lo : w0.heap.size + 2 ≤ o
  xe : xb = w0.heap.size + 1
/-- both have done the same -/
theorem Twins.next {w0 w1 w2 w3 : World} {p o xb : Nat} {xw xn : Int} {c c' : PP} (T : Twins w0 w1 p o xb xw xn c) (h2 : Pc w2 p c') (o2 : Only w1 w2 p) (h3 : Pc w3 o c') (o3 : Only w2 w3 o) (g : c'.Good) : Twins w0 w3 p o xb xw xn c' :=
  ⟨h2.only o3 T.ne, h3, g, (o3.block xb (by have := ltOf T.hx; have := o2.size; omega) (by have := T.lo; have := T.xe; omega)).trans ((o2.block xb (ltOf T.hx) (by have := T.lp; have := T.xe; omega)).trans T.hx),
    (T.bel.trans (o2.below (by have := T.lp; omega) T.bel.size)).trans (o3.below (by have := T.lo; omega) (by have := T.bel.size; have := o2.size; omega)), T.ne, T.lp, T.lo, T.xe⟩

theorem Twins.drew {w0 w1 : World} {p o xb : Nat} {xw xn : Int} {c : PP} (T : Twins w0 w1 p o xb xw xn c) : Twins w0 w1.drew p o xb xw xn c :=
  ⟨T.hp, T.ho, T.good, T.hx, Bdr T.bel, T.ne, T.lp, T.lo, T.xe⟩

set_option maxRecDepth 100000 in
set_option maxHeartbeats 8000000 in
theorem parts_in (w : World) (q t k a xw xn : Int) (A : Option Addr) (len cap : Nat) (what slot : Nat → Int) (hf : Fit t a) (hA : Acts w A len what slot) (hxw : 0 ≤ xw ∧ xw ≤ 255) (hxn : I64 xn) :
    Calls Try.prog 3 #[TV q t k a, .slice A len cap, .agg #[.int .u8 xw, .int .i64 xn]] w fun e w' => e = .returned (.bool true) ∧ Below w.heap.size w w' := by
  have n0 := fun w => pNew_in w q t k a hf
  have aw := fun w => awake_any w
  have b0 : Below w.heap.size w ((w.alloc (.cells #[.int .i64 q, .int .i64 t, .int .i64 k, .int .i64 a] 23)).alloc (.cells #[.int .u8 xw, .int .i64 xn] 26)) := both _ _ _
  have sz : ((w.alloc (.cells #[.int .i64 q, .int .i64 t, .int .i64 k, .int .i64 a] 23)).alloc (.cells #[.int .u8 xw, .int .i64 xn] 26)).heap.size = w.heap.size + 2 := by simp
  have hx : ((w.alloc (.cells #[.int .i64 q, .int .i64 t, .int .i64 k, .int .i64 a] 23)).alloc (.cells #[.int .u8 xw, .int .i64 xn] 26)).heap[w.heap.size + 1]? = some (.cells #[.int .u8 xw, .int .i64 xn] 26 (0, 0)) := by
    have := heap_alloc_new (w.alloc (.cells #[.int .i64 q, .int .i64 t, .int .i64 k, .int .i64 a] 23)) (.cells #[.int .u8 xw, .int .i64 xn] 26)
    rw [show (w.alloc (.cells #[.int .i64 q, .int .i64 t, .int .i64 k, .int .i64 a] 23)).heap.size = w.heap.size + 1 by simp] at this
    exact this
  have B0 := Lib.hid b0
  have SZ := Lib.hid sz
  have HX := Lib.hid hx
  have G0 := Lib.hid (new0_good hf)
  have TB0 := Lib.hid ((TB.new w q t k a).alloc (.cells #[.int .u8 xw, .int .i64 xn] 26))
  clear b0 sz hx hf
  unfold TV at n0 ⊢
  go_enter Try.func3, Try.ntmps3
  go_wp2_with fail
  refine (n0 _).mono ?_
  rintro e w1 ⟨p, rfl, h1, b1, hp⟩
  obtain ⟨d0, d1, d2, d3⟩ := (TB0.out.below b1 (ltOf TB0.out)).cells
  have H1 := Lib.hid h1
  have B1 := Lib.hid b1
  have LP := Lib.hid hp
  clear h1 b1 hp
  go_wp2_with fail
  refine (n0 _).mono ?_
  rintro e w2 ⟨o, rfl, h2, b2, ho⟩
  clear d0 d1 d2 d3 TB0
  have T0 : Twins w w2 p o (w.heap.size + 1) xw xn (new0 t a) := by
    have s0 := SZ.out
    have s1 := ltOf H1.out
    have s2 := B1.out.size
    have s3 := LP.out
    rw [s0] at s2 s3
    exact ⟨H1.out.below b2 s1, h2, G0.out, (b2.block _ (by omega)).trans ((B1.out.block _ (by omega)).trans HX.out), (B0.out.trans (B1.out.mono (by omega))).trans (b2.mono (by omega)), by omega, by omega, by omega, rfl⟩
  have T1 := Lib.hid T0
  clear T0 h2 b2 ho B1 LP H1 HX SZ B0 G0 n0
  go_wp2_with fail
  go_loopw [11] (fun i wr => ∃ (j : Nat) (c : PP), j ≤ len ∧ j ≤ 40 ∧ i = .int .i64 j ∧ Twins w wr p o (w.heap.size + 1) xw xn c) (fun i _ => len - (intOf i).toNat)
  case atStart => exact ⟨0, _, by omega, by omega, rfl, T1.out⟩
  case round =>
    obtain ⟨j, c, hj, hj4, rfl, T⟩ := hrel
    clear T1
    have T2 := Lib.hid T
    clear T
    by_cases hlt : j < len ∧ j < 40
    · obtain ⟨hlt, hl40⟩ := hlt
      obtain ⟨hA1, hA2, hA3, hA4⟩ := hA
      obtain ⟨b, off, rfl, hbb, hc⟩ := hA4 (by omega)
      have c1 := (T2.out.bel.cell (p := ⟨b, off + j * 2, none⟩) hbb).trans (hc j hlt).1
      have c2 := (T2.out.bel.cell (p := ⟨b, off + j * 2 + 1, none⟩) hbb).trans (hc j hlt).2
      have hw0 := (hA1 j).1
      have hw1 := (hA1 j).2
      have hs := hA2 j
      clear hc hA1 hA2 hA4
      generalize what j = wk at *
      generalize slot j = sk at *
      obtain ⟨hs0, hs1⟩ := hs
      by_cases hgr : 1048576 < sk
      · clear hs0
        go_wp2_with fail
        refine (aw _).mono ?_
        rintro e w3 ⟨rfl, b3⟩
        go_wp2_with fail
        go_ret
        exact ⟨rfl, T2.out.bel.trans (b3.mono T2.out.bel.size)⟩
      by_cases hw2 : wk % 5 = 2
      · go_wp2_with fail
        refine (pBegin_any _ p c T2.out.hp T2.out.good).mono ?_
        rintro e w3 ⟨rfl, h3, o3⟩
        have H3 := Lib.hid h3
        have O3 := Lib.hid o3
        clear h3 o3
        go_wp2_with fail
        refine (pBegin_any _ o c (T2.out.ho.only O3.out T2.out.ne.symm) T2.out.good).mono ?_
        rintro e w4 ⟨rfl, h4, o4⟩
        have T3 := Lib.hid (T2.out.next H3.out O3.out h4 o4 (tnC_good T2.out.good _))
        clear h4 o4 H3 O3 T2
        go_wp2_with fail
        go_roundw
        case rel => exact ⟨j + 1, _, by omega, by omega, by go_num, T3.out⟩
        case measure => simp [intOf]; omega
      have hw2' : (wk % 5 == 2) = false := by rw [beq_eq_false_iff_ne]; exact hw2
      clear hw2
      by_cases hw3 : wk % 5 = 3
      · clear hw2'
        go_wp2_with fail
        refine (pEnd_any _ p c T2.out.hp T2.out.good).mono ?_
        rintro e w3 ⟨rfl, h3, o3⟩
        have H3 := Lib.hid h3
        have O3 := Lib.hid o3
        clear h3 o3
        go_wp2_with fail
        refine (pEnd_any _ o c (T2.out.ho.only O3.out T2.out.ne.symm) T2.out.good).mono ?_
        rintro e w4 ⟨rfl, h4, o4⟩
        have T3 := Lib.hid (T2.out.next H3.out O3.out h4 o4 (tnC_good T2.out.good _))
        clear h4 o4 H3 O3 T2
        go_wp2_with fail
        go_roundw
        case rel => exact ⟨j + 1, _, by omega, by omega, by go_num, T3.out⟩
        case measure => simp [intOf]; omega
      have hw3' : (wk % 5 == 3) = false := by rw [beq_eq_false_iff_ne]; exact hw3
      clear hw3
      go_wp2_with fail
      refine (pAsk_any _ p c sk T2.out.hp T2.out.good hs1).mono ?_
      rintro e w3 ⟨rfl, h3, o3⟩
      have c3 := ((o3.below (p := p) (by have := T2.out.lp; omega) T2.out.bel.size).cell (p := ⟨b, off + j * 2 + 1, none⟩) hbb).trans c2
      have H3 := Lib.hid h3
      have O3 := Lib.hid o3
      clear h3 o3
      go_wp2_with fail
      refine (pAsk_any _ o c sk (T2.out.ho.only O3.out T2.out.ne.symm) T2.out.good hs1).mono ?_
      rintro e w4 ⟨rfl, h4, o4⟩
      have T3 := Lib.hid (T2.out.next H3.out O3.out h4 o4 (askC_good T2.out.good _))
      clear h4 o4 H3 O3 T2
      go_wp2_with fail
      go_roundw
      case rel => exact ⟨j + 1, _, by omega, by omega, by go_num, T3.out⟩
      case measure => simp [intOf]; omega
    · have hlt' : len ≤ j ∨ (j < len ∧ 40 ≤ j) := by omega
      clear hlt hA
      have x0 : wr.cell? ⟨w.heap.size + 1, 0, none⟩ = some (.int .u8 xw) := by rw [cellOf T2.out.hx]; rfl
      have x1 : wr.cell? ⟨w.heap.size + 1, 1, none⟩ = some (.int .i64 xn) := by rw [cellOf T2.out.hx]; rfl
      obtain ⟨n1, n2⟩ := hxn
      obtain ⟨m1, m2⟩ := hxw
      have key : xn < 1 ∨ 1048576 < xn ∨ (1 ≤ xn ∧ xn ≤ 1048576) := by omega
      rcases key with hk | hk | ⟨hk, hk'⟩
      · rcases hlt' with hl | ⟨hl, hl'⟩
        all_goals
          go_wp2_with fail
          go_region
          go_wp2_with fail
          refine (aw _).mono ?_
          rintro e w3 ⟨rfl, b3⟩
          go_wp2_with fail
          go_ret
          exact ⟨rfl, (Bdr T2.out.bel).trans (b3.mono T2.out.bel.size)⟩
      · rcases hlt' with hl | ⟨hl, hl'⟩
        all_goals
          go_wp2_with fail
          go_region
          go_wp2_with fail
          refine (aw _).mono ?_
          rintro e w3 ⟨rfl, b3⟩
          go_wp2_with fail
          go_ret
          exact ⟨rfl, (Bdr T2.out.bel).trans (b3.mono T2.out.bel.size)⟩
      · have Td := Lib.hid T2.out.drew
        by_cases hd : askD c (1 + xw) = 0
        · obtain ⟨q1, q2⟩ := ask_parts T2.out.good (by omega) hk hd
          have g1 := askC_good T2.out.good (1 + xw)
          have g2 := askC_good g1 xn
          have r1 := pAsk_any _ p c (1 + xw) Td.out.hp T2.out.good (by omega)
          have r2 := fun w h => pAsk_any w p (askC c (1 + xw)) xn h g1 (by omega)
          have r3 := fun w h => pAsk_any w o c (1 + xw + xn) h T2.out.good (by omega)
          rw [← q1, ← q2] at r3
          rw [hd] at r1
          have G1 := Lib.hid g1
          have G2 := Lib.hid g2
          clear q1 q2 hd g1 g2
          generalize askC (askC c (1 + xw)) xn = c2 at *
          generalize askD (askC c (1 + xw)) xn = dd at *
          generalize askE xn = e1 at *
          generalize askE (1 + xw + xn) = e2 at *
          generalize askE (1 + xw) = e3 at *
          generalize askC c (1 + xw) = cm at *
          rcases hlt' with hl | ⟨hl, hl'⟩
          all_goals
            go_wp2_with fail
            go_region
            go_wp2_with fail
            refine r1.mono ?_
            rintro e w3 ⟨rfl, h3, o3⟩
            have H3 := Lib.hid h3
            have O3 := Lib.hid o3
            clear r1 h3 o3
            go_wp2_with fail
            refine (r2 _ H3.out).mono ?_
            rintro e w4 ⟨rfl, h4, o4⟩
            have H4 := Lib.hid h4
            have O4 := Lib.hid (O3.out.trans o4)
            clear r2 h4 o4 H3 O3
            go_wp2_with fail
            refine (r3 _ (Td.out.ho.only O4.out Td.out.ne.symm)).mono ?_
            rintro e w5 ⟨rfl, h5, o5⟩
            have T3 := Lib.hid (Td.out.next H4.out O4.out h5 o5 G2.out)
            clear r3 h5 o5 H4 O4 Td T2
            have s1 := pSince_any _ p c2 T3.out.hp T3.out.good.tr0
            have s2 := pSince_any _ o c2 T3.out.ho T3.out.good.tr0
            have s3 := pTotal_any _ p c2 T3.out.hp T3.out.good.tr0
            have s4 := pTotal_any _ o c2 T3.out.ho T3.out.good.tr0
            have s5 := pDebt_any _ p c2 T3.out.hp T3.out.good.tr0
            have s6 := pDebt_any _ o c2 T3.out.ho T3.out.good.tr0
            go_wp2_with fail
            refine s1.mono ?_
            rintro e w' ⟨rfl, rfl⟩
            go_wp2_with fail
            refine s2.mono ?_
            rintro e w' ⟨rfl, rfl⟩
            go_wp2_with fail
            refine s3.mono ?_
            rintro e w' ⟨rfl, rfl⟩
            go_wp2_with fail
            refine s4.mono ?_
            rintro e w' ⟨rfl, rfl⟩
            go_wp2_with fail
            refine s5.mono ?_
            rintro e w' ⟨rfl, rfl⟩
            go_wp2_with fail
            refine s6.mono ?_
            rintro e w' ⟨rfl, rfl⟩
            go_wp2_with fail
            refine (aw _).mono ?_
            rintro e w6 ⟨rfl, b6⟩
            go_wp2_with fail
            go_ret
            exact ⟨rfl, T3.out.bel.trans (b6.mono T3.out.bel.size)⟩
        · have hsi := ask_due T2.out.good (by omega) hd
          have g1 := askC_good T2.out.good (1 + xw)
          have r1 := pAsk_any _ p c (1 + xw) Td.out.hp T2.out.good (by omega)
          have hd' : (askD c (1 + xw) == 0) = false := by rw [beq_eq_false_iff_ne]; exact hd
          have G1 := Lib.hid g1
          clear hd g1
          generalize askD c (1 + xw) = dd at *
          generalize askE (1 + xw) = e3 at *
          generalize askC c (1 + xw) = cm at *
          rcases hlt' with hl | ⟨hl, hl'⟩
          all_goals
            go_wp2_with fail
            go_region
            go_wp2_with fail
            refine r1.mono ?_
            rintro e w3 ⟨rfl, h3, o3⟩
            have s1 := pSince_any _ p cm h3 G1.out.tr0
            rw [hsi] at s1
            have B3 := Lib.hid (Td.out.bel.trans (o3.below (by have := Td.out.lp; omega) Td.out.bel.size))
            clear r1 h3 o3
            go_wp2_with fail
            refine s1.mono ?_
            rintro e w' ⟨rfl, rfl⟩
            go_wp2_with fail
            refine (aw _).mono ?_
            rintro e w6 ⟨rfl, b6⟩
            go_wp2_with fail
            go_ret
            exact ⟨rfl, B3.out.trans (b6.mono B3.out.size)⟩
theorem parts_walk (w : World) (q t k a xw xn : Int) (A : Option Addr) (len cap : Nat) (what slot : Nat → Int) (hA : Acts w A len what slot) (hxw : 0 ≤ xw ∧ xw ≤ 255) (hxn : I64 xn) :
    Calls Try.prog 3 #[TV q t k a, .slice A len cap, .agg #[.int .u8 xw, .int .i64 xn]] w fun e w' => e = .returned (.bool true) ∧ Below w.heap.size w w' := by
  by_cases hf : Fit t a
  · exact parts_in w q t k a xw xn A len cap what slot hf hA hxw hxn
  · exact parts_out w q t k a xw xn A len cap hf
end Go.Proofs.Ytembhdlhhhdpiaa
