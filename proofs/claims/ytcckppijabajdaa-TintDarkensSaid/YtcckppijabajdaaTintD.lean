/- The walk of TintDarkens. -/
import Derived.Test.YtcckppijabajdaaTintQ
import Derived.Test.YtcckppijabajdaaTintZ
namespace Go.Proofs.Ytcckppijabajdaa
open Go.RowKit

set_option maxRecDepth 100000 in
set_option maxHeartbeats 4000000 in
theorem darkens_walk (w : World) (many : Int) (A : Option Addr) (len cap : Nat) (what slot : Nat → Int) (hm : 0 ≤ many ∧ many ≤ 65535) (hA : Acts w A len what slot) :
    Calls Try.prog 4 #[.int .u16 many, .slice A len cap] w fun e w' => e = .returned (.bool true) ∧ Below w.heap.size w w' := by
  obtain ⟨hm0, hm1⟩ := hm
  obtain ⟨n, hn⟩ : ∃ n : Nat, many % 301 = n := ⟨(many % 301).toNat, by omega⟩
  have hn300 : n ≤ 300 := by omega
  have c0 := tNew_in w n 1 (by omega) (by decide) (by decide)
  have hmk := run_make_row' (P := Try.prog) 46 4 (.bool false) 1 Try.underlying46 info4 rfl .i64 .i64 n (by omega) (by omega)
  go_enter Try.func4, Try.ntmps4
  go_wp2_with fail
  refine c0.mono ?_
  rintro e w1 ⟨p, g, rfl, h1, b1, hp, hg⟩
  have HD := Lib.hid (told_made w1 n)
  have hgt : w.heap.size ≤ w1.heap.size := b1.size
  have HT := Lib.hid (h1.alloc (.cells (madeCells #[.bool false] n) 4))
  have HB := Lib.hid (b1.alloc b1.size (.cells (madeCells #[.bool false] n) 4))
  clear c0 h1 b1 hn hm0 hm1
  go_wp2_with fail
  go_loopw [8, 9] (fun v i wr => ∃ (k gt : Nat) (cs : List Int) (bs : List Bool), k ≤ len ∧ k ≤ 100 ∧ i = .int .i64 k ∧ v = .slice (some ⟨gt, 0, none⟩) n n ∧ w.heap.size ≤ gt ∧ Tn wr p g cs (k + 1) ∧ Told wr gt bs cs ∧ cs.length = n ∧ Below w.heap.size w wr) (fun _ i _ => len - (intOf i).toNat)
  case atStart => exact ⟨0, _, _, _, by omega, by omega, rfl, rfl, hgt, HT.out, HD.out, List.length_replicate, HB.out⟩
  case round =>
    obtain ⟨k, gt, cs, bs, hk, hk1, rfl, rfl, hgtb, hT, hD, hlen, hB⟩ := hrel
    clear HT HD HB hgt
    have HL := Lib.hid hlen
    have HT := Lib.hid hT
    have HD := Lib.hid hD
    have HB := Lib.hid hB
    clear hlen hT hD hB
    by_cases hlt : k < len ∧ k < 100
    · obtain ⟨hlt, hl100⟩ := hlt
      obtain ⟨hA1, hA2, hA3, hA4⟩ := hA
      obtain ⟨b, off, rfl, hbb, hc⟩ := hA4 (by omega)
      have c1 := (HB.out.cell (p := ⟨b, off + k * 2, none⟩) hbb).trans (hc k hlt).1
      have c2 := (HB.out.cell (p := ⟨b, off + k * 2 + 1, none⟩) hbb).trans (hc k hlt).2
      have hw0 := (hA1 k).1
      have hw1 := (hA1 k).2
      clear hc hA1 hA2 hA4
      generalize what k = wk at *
      generalize slot k = sk at *
      have HX := Lib.hid (XB.new wr wk sk)
      have hpl := HT.out.lt.1
      have hgl := HT.out.lt.2
      have hgtl := HD.out.lt
      have HT0 := Lib.hid (HT.out.alloc (.cells #[.int .u8 wk, .int .i64 sk] 31))
      have HD0 := Lib.hid (HD.out.keep (Below.heap_alloc wr (.cells #[.int .u8 wk, .int .i64 sk] 31) gt HD.out.lt))
      have HB0 := Lib.hid (HB.out.alloc HB.out.size (.cells #[.int .u8 wk, .int .i64 sk] 31))
      have hgne := HD.out.ne HT.out
      have hgn1 := hgne.1
      have hgn2 := hgne.2
      have d0 := tOf_any _ p g cs _ sk HT0.out
      clear HT HD HB hgne
      by_cases hw : wk % 4 = 2
      · go_wp2_with fail
        refine d0.mono ?_
        rintro e w0 ⟨rfl, rfl⟩
        clear d0
        have x0 := HX.out.1
        go_wp2_with fail
        refine (tBlack_any _ p g cs _ sk HT0.out).mono ?_
        rintro e w3 ⟨rfl, hT3, o3⟩
        have HTz := Lib.hid hT3
        have HDz := Lib.hid ((HD0.out.keep (o3.block gt HD0.out.lt hgn1 hgn2)).black sk)
        have HXz := Lib.hid (HX.out.only o3 (by omega) (by omega))
        have HBz := Lib.hid (HB0.out.trans (o3.below hp hg HB0.out.size))
        have HR := Lib.hid HT0.out.range
        clear hT3 o3 HT0 HX HB0 HD0 x0
        have x1 := HXz.out.1
        go_wp2_with fail
        have d1 := tOf_any w3 p g (blC cs sk) _ sk HTz.out
        have hnl : ¬ (ofC (blC cs sk) sk < ofC cs sk) := black_dark cs sk HR.out
        generalize ofC (blC cs sk) sk = od at *
        generalize ofC cs sk = oc at *
        go_wp2_with (go_at_call 15; refine d1.mono ?_; rintro e w' ⟨rfl, rfl⟩)
        go_roundw
        case rel => exact ⟨k + 1, gt, (blC cs sk), _, by omega, by omega, by go_num, rfl, hgtb, HTz.out.more (by omega) (by omega), HDz.out, (blC_len cs sk).trans HL.out, HBz.out⟩
        case measure => simp [intOf]; omega
      by_cases hw3 : wk % 4 = 3
      · have hw' : (wk % 4 == 2) = false := by rw [hw3]; rfl
        clear hw
        by_cases hs : sk = 0
        · subst hs
          go_wp2_with fail
          refine d0.mono ?_
          rintro e w0 ⟨rfl, rfl⟩
          clear d0
          go_wp2_with fail
          refine (tFlip_any _ p g cs _ HT0.out (by omega)).mono ?_
          rintro e w2 ⟨rfl, hT2, o2⟩
          rw [HL.out] at hT2
          have HTz := Lib.hid (hT2.alloc (.cells (madeCells #[.bool false] n) 4))
          have HDz := Lib.hid (told_made w2 n)
          have hB2 := HB0.out.trans (o2.below hp hg HB0.out.size)
          have hsz := hB2.size
          have HBz := Lib.hid (hB2.alloc hB2.size (.cells (madeCells #[.bool false] n) 4))
          have e0 := tCount_any _ p g _ _ 0 HTz.out
          have e1 := tCount_any _ p g _ _ 1 HTz.out
          have e2 := tCount_any _ p g _ _ 2 HTz.out
          rw [cnt_white] at e0
          rw [cnt_other n 1 (by decide)] at e1
          rw [cnt_other n 2 (by decide)] at e2
          clear hT2 o2 HT0 HX HB0 HD0 c1 c2 hB2
          go_wp2_with fail
          refine e0.mono ?_
          rintro e w' ⟨rfl, rfl⟩
          go_wp2_with fail
          refine e1.mono ?_
          rintro e w' ⟨rfl, rfl⟩
          go_wp2_with fail
          refine e2.mono ?_
          rintro e w' ⟨rfl, rfl⟩
          go_wp2_with fail
          go_roundw
          case rel => exact ⟨k + 1, _, _, _, by omega, by omega, by go_num, rfl, hsz, HTz.out.more (by omega) (by omega), HDz.out, List.length_replicate, HBz.out⟩
          case measure => simp [intOf]; omega
        · have hs' : (sk == 0) = false := by rw [beq_eq_false_iff_ne]; exact hs
          clear hs
          go_wp2_with fail
          refine d0.mono ?_
          rintro e w0 ⟨rfl, rfl⟩
          clear d0
          go_wp2_with fail
          go_roundw
          case rel => exact ⟨k + 1, gt, cs, _, by omega, by omega, by go_num, rfl, hgtb, HT0.out.more (by omega) (by omega), HD0.out, HL.out, HB0.out⟩
          case measure => simp [intOf]; omega
      have hw' : (wk % 4 == 2) = false := by rw [beq_eq_false_iff_ne]; exact hw
      have hw3' : (wk % 4 == 3) = false := by rw [beq_eq_false_iff_ne]; exact hw3
      clear hw hw3
      by_cases hs : shB cs sk = true
      · obtain ⟨i1, i2, i3⟩ := shB_in hs
        obtain ⟨j, rfl⟩ := Int.eq_ofNat_of_zero_le i1
        have hj : j < n := by have := HL.out; omega
        have eoc : ofC cs j = 0 := by unfold ofC; rw [if_pos ⟨i1, i2⟩]; exact i3
        rw [eoc] at d0
        have dS := tShade_any _ p g cs _ (j : Int) HT0.out
        rw [hs, ofE_in (by rw [HL.out]; exact hj)] at dS
        have HF := Lib.hid (HD0.out.2.2 j)
        have HI := Lib.hid i3
        have HS := Lib.hid hs
        have HEO := Lib.hid eoc
        clear i1 i2 i3 hs eoc
        go_wp2_with fail
        refine d0.mono ?_
        rintro e w0 ⟨rfl, rfl⟩
        clear d0
        have x0 := HX.out.1
        go_wp2_with fail
        refine dS.mono ?_
        rintro e w3 ⟨rfl, hT3, o3⟩
        have hD3 := HD0.out.keep (o3.block gt HD0.out.lt hgn1 hgn2)
        have hfalse : bs.getD j false = false := by
          cases hb : bs.getD j false
          · rfl
          · exact absurd (by have := HI.out; rwa [Int.toNat_natCast] at this) (HF.out hb)
        have t1 := hD3.cell j (by rw [HL.out]; exact hj)
        rw [hfalse] at t1
        have t2 := frozenOf hD3.1 j
        have HX3 := Lib.hid (HX.out.only o3 (by omega) (by omega))
        have hxg : wr.heap.size ≠ gt := by omega
        have HTz := Lib.hid (hT3.keep (w' := w3.setCell ⟨gt, j, none⟩ (.bool true)) (Below.heap_setCell _ _ _ _ (Ne.symm hgn1)) (Below.heap_setCell _ _ _ _ (Ne.symm hgn2)))
        have HDz := Lib.hid (hD3.shade j HS.out)
        have HBz := Lib.hid ((HB0.out.trans (o3.below hp hg HB0.out.size)).setCell (p := ⟨gt, j, none⟩) hgtb (.bool true))
        have x1 := HX3.out.1
        have x2 : (w3.setCell ⟨gt, j, none⟩ (.bool true)).cell? ⟨wr.heap.size, 1, none⟩ = some (.int .i64 (j : Int)) := (World.cell?_of_block (w := w3) (a := ⟨wr.heap.size, 1, none⟩) (Below.heap_setCell _ _ _ _ hxg)).trans x1
        clear hT3 o3 HT0 HX HB0 HD0 x0 hD3 hfalse HF HI c1 c2 HS dS
        go_wp2_with fail
        have d1 := tOf_any _ p g (shC cs j) _ j HTz.out
        have hnl : ¬ (ofC (shC cs j) j < ofC cs j) := shade_dark cs j
        generalize ofC (shC cs j) j = od at *
        rw [HEO.out] at hnl
        go_wp2_with (go_at_call 15; refine d1.mono ?_; rintro e w' ⟨rfl, rfl⟩)
        go_roundw
        case rel => exact ⟨k + 1, gt, (shC cs j), _, by omega, by omega, by go_num, rfl, hgtb, HTz.out.more (by omega) (by omega), HDz.out, (shC_len cs j).trans HL.out, HBz.out⟩
        case measure => simp [intOf]; omega
      · have hs' : shB cs sk = false := by simpa using hs
        have esh : shC cs sk = cs := by unfold shC; rw [if_neg hs]
        have dS := tShade_any _ p g cs _ sk HT0.out
        rw [hs', esh] at dS
        clear hs hs' esh
        generalize ofE cs.length sk = oe at *
        go_wp2_with fail
        refine d0.mono ?_
        rintro e w0 ⟨rfl, rfl⟩
        clear d0
        have x0 := HX.out.1
        go_wp2_with fail
        refine dS.mono ?_
        rintro e w3 ⟨rfl, hT3, o3⟩
        have HTz := Lib.hid hT3
        have HDz := Lib.hid (HD0.out.keep (o3.block gt HD0.out.lt hgn1 hgn2))
        have HXz := Lib.hid (HX.out.only o3 (by omega) (by omega))
        have HBz := Lib.hid (HB0.out.trans (o3.below hp hg HB0.out.size))
        clear hT3 o3 HT0 HX HB0 HD0 x0 c1 c2 dS
        have x1 := HXz.out.1
        go_wp2_with fail
        have d1 := tOf_any w3 p g cs _ sk HTz.out
        generalize ofC cs sk = oc at *
        go_wp2_with (go_at_call 15; refine d1.mono ?_; rintro e w' ⟨rfl, rfl⟩)
        go_roundw
        case rel => exact ⟨k + 1, gt, cs, _, by omega, by omega, by go_num, rfl, hgtb, HTz.out.more (by omega) (by omega), HDz.out, HL.out, HBz.out⟩
        case measure => simp [intOf]; omega
    · have hlt' : len ≤ k ∨ (k < len ∧ 100 ≤ k) := by omega
      clear hlt hA
      have hcn := cnt_all cs HT.out.range
      rw [HL.out] at hcn
      have hcn1 : (cnt cs 0 : Int) + (cnt cs 1 : Int) + (cnt cs 2 : Int) = n := by omega
      have hb0 : cnt cs 0 ≤ 300 := by omega
      have hb1 : cnt cs 1 ≤ 300 := by omega
      have hb2 : cnt cs 2 ≤ 300 := by omega
      clear hcn
      have HW : ∀ o, Hid (NoT (wr.alloc (.cells #[.slice none 0 0, .int .u64 0] o)) (.pointer (some ⟨wr.heap.size, 0, none⟩))) := fun o =>
        .inr ⟨_, _, rfl, by rw [World.cell?_alloc_at _ _ _ _ rfl]; rfl, by rw [World.cell?_alloc_at _ _ _ _ rfl]; rfl⟩
      have HTw := Lib.hid (HT.out.alloc (.cells #[.slice none 0 0, .int .u64 0] 50))
      have HBw := Lib.hid (HB.out.alloc HB.out.size (.cells #[.slice none 0 0, .int .u64 0] 50))
      have e0 := tCount_any _ p g cs _ 0 HTw.out
      have e1 := tCount_any _ p g cs _ 1 HTw.out
      have e2 := tCount_any _ p g cs _ 2 HTw.out
      generalize cnt cs 0 = z0 at *
      generalize cnt cs 1 = z1 at *
      generalize cnt cs 2 = z2 at *
      rcases hlt' with hlt | ⟨hlt, h60⟩
      all_goals
        go_wp2_with fail
        refine (flip_none _ _ (.inl rfl)).mono ?_
        rintro e w' ⟨rfl, rfl⟩
        go_wp2_with fail
        refine (flip_none _ _ (HW 50).out).mono ?_
        rintro e w' ⟨rfl, rfl⟩
        go_wp2_with fail
        refine (of_no _ _ _ (.inl rfl)).mono ?_
        rintro e w' ⟨rfl, rfl⟩
        go_wp2_with fail
        refine (shade_none _ _ _ (HW 50).out).mono ?_
        rintro e w' ⟨rfl, rfl⟩
        go_wp2_with fail
        refine e0.mono ?_
        rintro e w' ⟨rfl, rfl⟩
        go_wp2_with fail
        refine e1.mono ?_
        rintro e w' ⟨rfl, rfl⟩
        go_wp2_with fail
        refine e2.mono ?_
        rintro e w' ⟨rfl, rfl⟩
        go_wp2_with fail
        refine (black_none _ _ _ (.inl rfl)).mono ?_
        rintro e w' ⟨rfl, rfl⟩
        go_wp2_with fail
        refine (count_none _ _ _ (.inl rfl)).mono ?_
        rintro e w' ⟨rfl, rfl⟩
        go_wp2_with fail
        refine (count_none _ _ _ (HW 50).out).mono ?_
        rintro e w' ⟨rfl, rfl⟩
        go_wp2_with fail
        refine (awake_any _).mono ?_
        rintro e w3 ⟨rfl, b3⟩
        go_wp2_with fail
        go_ret
        exact ⟨rfl, HBw.out.trans (b3.mono HBw.out.size)⟩
end Go.Proofs.Ytcckppijabajdaa
