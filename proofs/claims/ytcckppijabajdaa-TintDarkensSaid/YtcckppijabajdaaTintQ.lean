/- The walk of TintPlays: the loop over the acts. -/
import Derived.Test.YtcckppijabajdaaTintP
namespace Go.Proofs.Ytcckppijabajdaa
open Go.RowKit

/-- the copied act's slot, in its own block -/
def XB (w : World) (xb : Nat) (sk : Int) : Prop := w.cell? ⟨xb, 1, none⟩ = some (.int .i64 sk) ∧ xb < w.heap.size
theorem XB.new (w : World) (wk sk : Int) : XB (w.alloc (.cells #[.int .u8 wk, .int .i64 sk] 31)) w.heap.size sk := ⟨by rw [World.cell?_alloc_at _ _ _ _ rfl]; rfl, by simp⟩
theorem XB.below {w w' : World} {xb : Nat} {sk : Int} (h : XB w xb sk) (hb : Below w.heap.size w w') : XB w' xb sk := ⟨(hb.cell (p := ⟨xb, 1, none⟩) h.2).trans h.1, Nat.lt_of_lt_of_le h.2 hb.size⟩
theorem XB.only {w w' : World} {xb : Nat} {sk : Int} {p g : Nat} (h : XB w xb sk) (ho : Only w w' p g) (h1 : xb ≠ p) (h2 : xb ≠ g) : XB w' xb sk := ⟨(ho.cell h.2 h1 h2 1).trans h.1, Nat.lt_of_lt_of_le h.2 ho.size⟩

set_option maxRecDepth 100000 in
set_option maxHeartbeats 4000000 in
theorem plays_small (w : World) (n : Nat) (c : Int) (A : Option Addr) (len cap : Nat) (what slot : Nat → Int) (hm : n ≤ 300) (hA : Acts w A len what slot) :
    Calls Try.prog 3 #[.int .i64 n, .slice A len cap, .int .u8 c] w fun e w' => e = .returned (.bool true) ∧ Below w.heap.size w w' := by
  have c0 := tNew_in w n 1 (by omega) (by decide) (by decide)
  have hmk := run_make_row' (P := Try.prog) 29 5 (.int .u8 0) 1 Try.underlying29 info5 rfl .i64 .i64 n (by omega) (by omega)
  go_enter Try.func3, Try.ntmps3
  go_wp2_with fail
  refine c0.mono ?_
  rintro e w1 ⟨p, g, rfl, h1, b1, hp, hg⟩
  have q1 := qr_made w1 n (by omega)
  have h2 := h1.alloc (.cells (madeCells #[.int .u8 0] n) 5)
  have b2 := b1.alloc b1.size (.cells (madeCells #[.int .u8 0] n) 5)
  have HQ := Lib.hid q1
  have HT := Lib.hid h2
  have HB := Lib.hid b2
  clear c0 h1 b1 q1 h2 b2
  go_wp2_with fail
  go_loopw [9, 10] (fun v i wr => ∃ (k : Nat) (cs : List Int), k ≤ len ∧ k ≤ 100 ∧ i = .int .i64 k ∧ Tn wr p g cs (k + 1) ∧ Qr wr v cs ∧ cs.length = n ∧ Below w.heap.size w wr) (fun _ i _ => len - (intOf i).toNat)
  case atStart => exact ⟨0, _, by omega, by omega, rfl, HT.out, HQ.out, List.length_replicate, HB.out⟩
  case round =>
    obtain ⟨k, cs, hk, hk1, rfl, hT, hQ, hlen, hB⟩ := hrel
    clear HT HQ HB
    have HL := Lib.hid hlen
    have HT := Lib.hid hT
    have HQ := Lib.hid hQ
    have HB := Lib.hid hB
    clear hlen hT hQ hB
    by_cases hlt : k < len ∧ k < 100
    · obtain ⟨hlt, hl100⟩ := hlt
      obtain ⟨hA1, hA2, hA3, hA4⟩ := hA
      obtain ⟨b, off, rfl, hbb, hc⟩ := hA4 (by omega)
      have c1 := (HB.out.cell (p := ⟨b, off + k * 2, none⟩) hbb).trans (hc k hlt).1
      have c2 := (HB.out.cell (p := ⟨b, off + k * 2 + 1, none⟩) hbb).trans (hc k hlt).2
      have hw0 := (hA1 k).1
      have hw1 := (hA1 k).2
      clear hc hA1 hA2 hA4
      generalize what k = wk at *
      generalize slot k = sk at *
      have HX := Lib.hid (XB.new wr wk sk)
      have hpl := HT.out.lt.1
      have hgl := HT.out.lt.2
      have HT0 := Lib.hid (HT.out.alloc (.cells #[.int .u8 wk, .int .i64 sk] 31))
      have HQ0 := Lib.hid (HQ.out.alloc (.cells #[.int .u8 wk, .int .i64 sk] 31))
      have HB0 := Lib.hid (HB.out.alloc HB.out.size (.cells #[.int .u8 wk, .int .i64 sk] 31))
      clear HT HQ HB
      by_cases hw : wk % 4 = 2
      · go_wp2_with fail
        refine (rBlack_any _ _ cs sk HQ0.out).mono ?_
        rintro e w2 ⟨v2, rfl, hQ2, b2⟩
        have HT2 := Lib.hid (HT0.out.below b2 HT0.out.lt.1 HT0.out.lt.2)
        have HX2 := Lib.hid (HX.out.below b2)
        have HB2 := Lib.hid (HB0.out.trans (b2.mono HB0.out.size))
        have HQ2 := Lib.hid hQ2
        have x2 := HX2.out.1
        clear hQ2 b2 HT0 HX HB0 HQ0 c1 c2
        go_wp2_with fail
        refine (tBlack_any _ p g cs _ sk HT2.out).mono ?_
        rintro e w3 ⟨rfl, hT3, o3⟩
        have HTz := Lib.hid hT3
        have HQz := Lib.hid (HQ2.out.only HT2.out o3)
        have HXz := Lib.hid (HX2.out.only o3 (by omega) (by omega))
        have HBz := Lib.hid (HB2.out.trans (o3.below hp hg HB2.out.size))
        clear hT3 o3 HT2 HX2 HB2 HQ2 x2
        have x1 := HXz.out.1
        go_wp2_with fail
        have d1 := tOf_any w3 p g (blC cs sk) _ sk HTz.out
        have d2 := rOf_any w3 v2 (blC cs sk) sk HQz.out
        have d3 := tCount_any w3 p g (blC cs sk) _ c HTz.out
        have d4 := rCount_any w3 v2 (blC cs sk) c HQz.out
        generalize ofC (blC cs sk) sk = oc at *
        generalize ofE ((blC cs sk)).length sk = oe at *
        generalize cnt (blC cs sk) c = oz at *
        go_wp2_with (first | (go_at_call 15; refine d1.mono ?_; rintro e w' ⟨rfl, rfl⟩) | (go_at_call 16; refine d2.mono ?_; rintro e w' ⟨rfl, rfl⟩) | (go_at_call 9; refine d3.mono ?_; rintro e w' ⟨rfl, rfl⟩) | (go_at_call 17; refine d4.mono ?_; rintro e w' ⟨rfl, rfl⟩))
        go_roundw
        case rel => exact ⟨k + 1, (blC cs sk), by omega, by omega, by go_num, HTz.out.more (by omega) (by omega), HQz.out, (blC_len cs sk).trans HL.out, HBz.out⟩
        case measure => simp [intOf]; omega
      by_cases hw3 : wk % 4 = 3
      · have hw' : (wk % 4 == 2) = false := by rw [hw3]; rfl
        clear hw
        by_cases hs : sk = 0
        · subst hs
          go_wp2_with fail
          refine (tFlip_any _ p g cs _ HT0.out (by omega)).mono ?_
          rintro e w2 ⟨rfl, hT2, o2⟩
          have q3 := qr_made w2 n (by omega)
          have HTz := Lib.hid (hT2.alloc (.cells (madeCells #[.int .u8 0] n) 5))
          have HQz := Lib.hid q3
          have HXz := Lib.hid ((HX.out.only o2 (by omega) (by omega)).below ((Below.refl _ _).alloc (Nat.le_refl _) (.cells (madeCells #[.int .u8 0] n) 5)))
          have hB2 := HB0.out.trans (o2.below hp hg HB0.out.size)
          have HBz := Lib.hid (hB2.alloc hB2.size (.cells (madeCells #[.int .u8 0] n) 5))
          rw [HL.out] at HTz
          have x1 := (HX.out.only o2 (by omega) (by omega)).1
          have x2 := (HX.out.only o2 (by omega) (by omega)).2
          clear hT2 o2 HT0 HX HB0 HQ0 c1 c2 q3 hB2
          go_wp2_with fail
          have d1 := tOf_any _ p g (List.replicate n 0) _ (0 : Int) HTz.out
          have d2 := rOf_any _ _ (List.replicate n 0) (0 : Int) HQz.out
          have d3 := tCount_any _ p g (List.replicate n 0) _ c HTz.out
          have d4 := rCount_any _ _ (List.replicate n 0) c HQz.out
          generalize ofC (List.replicate n 0) (0 : Int) = oc at *
          generalize ofE ((List.replicate n 0)).length (0 : Int) = oe at *
          generalize cnt (List.replicate n 0) c = oz at *
          go_wp2_with (first | (go_at_call 15; refine d1.mono ?_; rintro e w' ⟨rfl, rfl⟩) | (go_at_call 16; refine d2.mono ?_; rintro e w' ⟨rfl, rfl⟩) | (go_at_call 9; refine d3.mono ?_; rintro e w' ⟨rfl, rfl⟩) | (go_at_call 17; refine d4.mono ?_; rintro e w' ⟨rfl, rfl⟩))
          go_roundw
          case rel => exact ⟨k + 1, (List.replicate n 0), by omega, by omega, by go_num, HTz.out.more (by omega) (by omega), HQz.out, List.length_replicate, HBz.out⟩
          case measure => simp [intOf]; omega
        · have hs' : (sk == 0) = false := by rw [beq_eq_false_iff_ne]; exact hs
          clear hs
          go_wp2_with fail
          have HTz := HT0
          have HQz := HQ0
          have HXz := HX
          have HBz := HB0
          clear HT0 HQ0 HX HB0 c1 c2
          have d1 := tOf_any _ p g cs _ sk HTz.out
          have d2 := rOf_any _ _ cs sk HQz.out
          have d3 := tCount_any _ p g cs _ c HTz.out
          have d4 := rCount_any _ _ cs c HQz.out
          generalize ofC cs sk = oc at *
          generalize ofE (cs).length sk = oe at *
          generalize cnt cs c = oz at *
          go_wp2_with (first | (go_at_call 15; refine d1.mono ?_; rintro e w' ⟨rfl, rfl⟩) | (go_at_call 16; refine d2.mono ?_; rintro e w' ⟨rfl, rfl⟩) | (go_at_call 9; refine d3.mono ?_; rintro e w' ⟨rfl, rfl⟩) | (go_at_call 17; refine d4.mono ?_; rintro e w' ⟨rfl, rfl⟩))
          go_roundw
          case rel => exact ⟨k + 1, cs, by omega, by omega, by go_num, HTz.out.more (by omega) (by omega), HQz.out, HL.out, HBz.out⟩
          case measure => simp [intOf]; omega
      have hw' : (wk % 4 == 2) = false := by rw [beq_eq_false_iff_ne]; exact hw
      have hw3' : (wk % 4 == 3) = false := by rw [beq_eq_false_iff_ne]; exact hw3
      clear hw hw3
      go_wp2_with fail
      refine (rShade_any _ _ cs sk HQ0.out).mono ?_
      rintro e w2 ⟨v2, rfl, hQ2, b2⟩
      have HT2 := Lib.hid (HT0.out.below b2 HT0.out.lt.1 HT0.out.lt.2)
      have HX2 := Lib.hid (HX.out.below b2)
      have HB2 := Lib.hid (HB0.out.trans (b2.mono HB0.out.size))
      have HQ2 := Lib.hid hQ2
      have x2 := HX2.out.1
      clear hQ2 b2 HT0 HX HB0 HQ0 c1 c2
      go_wp2_with fail
      refine (tShade_any _ p g cs _ sk HT2.out).mono ?_
      rintro e w3 ⟨rfl, hT3, o3⟩
      have HTz := Lib.hid hT3
      have HQz := Lib.hid (HQ2.out.only HT2.out o3)
      have HXz := Lib.hid (HX2.out.only o3 (by omega) (by omega))
      have HBz := Lib.hid (HB2.out.trans (o3.below hp hg HB2.out.size))
      clear hT3 o3 HT2 HX2 HB2 HQ2 x2
      have x1 := HXz.out.1
      generalize shB cs sk = sb at *
      go_wp2_with fail
      have d1 := tOf_any w3 p g (shC cs sk) _ sk HTz.out
      have d2 := rOf_any w3 v2 (shC cs sk) sk HQz.out
      have d3 := tCount_any w3 p g (shC cs sk) _ c HTz.out
      have d4 := rCount_any w3 v2 (shC cs sk) c HQz.out
      generalize ofC (shC cs sk) sk = oc at *
      generalize ofE ((shC cs sk)).length sk = oe at *
      generalize cnt (shC cs sk) c = oz at *
      go_wp2_with (first | (go_at_call 15; refine d1.mono ?_; rintro e w' ⟨rfl, rfl⟩) | (go_at_call 16; refine d2.mono ?_; rintro e w' ⟨rfl, rfl⟩) | (go_at_call 9; refine d3.mono ?_; rintro e w' ⟨rfl, rfl⟩) | (go_at_call 17; refine d4.mono ?_; rintro e w' ⟨rfl, rfl⟩))
      go_roundw
      case rel => exact ⟨k + 1, (shC cs sk), by omega, by omega, by go_num, HTz.out.more (by omega) (by omega), HQz.out, (shC_len cs sk).trans HL.out, HBz.out⟩
      case measure => simp [intOf]; omega
    · have hlt' : len ≤ k ∨ (k < len ∧ 100 ≤ k) := by omega
      clear hlt hA
      rcases hlt' with hlt | ⟨hlt, h60⟩
      all_goals
        go_wp2_with fail
        clear hlt hk
        have hQr := HQ.out
        obtain ⟨gq, cq, rfl, hgq, hcq, hnq⟩ := hQr
        rw [HL.out] at hcq
        have HC := Lib.hid hcq
        clear hcq hnq HQ
        have hle := HL.out
        rw [hle]
        clear hle
        go_loop [23] (fun i => ∃ j : Nat, j ≤ n ∧ i = .int .i64 j) (fun i => n - (intOf i).toNat)
        case atStart => exact ⟨0, by omega, rfl⟩
        case round =>
          obtain ⟨j, hj, rfl⟩ := hrel
          by_cases hjl : j < n
          · have c1 := tOf_any wr p g _ _ (j : Int) HT.out
            rw [ofC_in (by rw [HL.out]; exact hjl), ofE_in (by rw [HL.out]; exact hjl)] at c1
            have c2 := HC.out j hjl
            generalize cs.getD j 0 = y at *
            go_wp2_with (go_at_call 15; refine c1.mono ?_; rintro e w3 ⟨rfl, rfl⟩)
            go_round
            case rel => exact ⟨j + 1, by omega, by go_num⟩
            case measure => simp [intOf]; omega
          · have c2 := awake_any wr
            go_wp2_with (go_at_call 8; refine c2.mono ?_; rintro e w3 ⟨rfl, b3⟩)
            go_ret
            exact ⟨rfl, HB.out.trans (b3.mono HB.out.size)⟩

theorem plays_walk (w : World) (many c : Int) (A : Option Addr) (len cap : Nat) (what slot : Nat → Int) (hA : Acts w A len what slot) :
    Calls Try.prog 3 #[.int .i64 many, .slice A len cap, .int .u8 c] w fun e w' => e = .returned (.bool true) ∧ Below w.heap.size w w' := by
  by_cases h : many < 0 ∨ 65536 < many
  · exact plays_out w many c A len cap h
  · obtain ⟨n, rfl⟩ := Int.eq_ofNat_of_zero_le (a := many) (by omega)
    by_cases h3 : 300 < n
    · exact plays_big w n c A len cap h3 (by omega)
    · exact plays_small w n c A len cap what slot (by omega) hA
end Go.Proofs.Ytcckppijabajdaa
