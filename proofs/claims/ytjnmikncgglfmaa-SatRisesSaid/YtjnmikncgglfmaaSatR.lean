/- The walk of Scale of the reference: the product is made bit by bit. -/
import Derived.Test.YtjnmikncgglfmaaSatS
import Derived.Test.YtjnmikncgglfmaaScalePlain
namespace Go.Proofs.Ytjnmikncgglfmaa
open Go.RowKit SatPlain

def RelS (x c y : Nat) (qv rv iv : Value) : Prop := ∃ (q r j : Nat) (I : Int), qv = .int .u64 q ∧ rv = .int .u64 r ∧ iv = .int .i64 I ∧ I = (j : Int) - 1 ∧ j ≤ 64 ∧ SR x c y q r j

set_option maxHeartbeats 2000000 in
theorem rScale_core (a b : Int) (x y c : Nat) (w : World) (hs : (0 < a ∧ 0 < b) ∨ (a < 0 ∧ b < 0)) (hc1 : 1 ≤ c) (hc2 : c ≤ 9223372036854775807)
    (ca : ∀ w, Calls Try.prog 30 #[.int .i64 a] w fun e w' => e = .returned (.int .u64 x) ∧ w = w')
    (cb : ∀ w, Calls Try.prog 30 #[.int .i64 b] w fun e w' => e = .returned (.int .u64 y) ∧ w = w') (hx : x ≤ 9223372036854775808) (hy : y ≤ 9223372036854775808) :
    Calls Try.prog 21 #[.int .i64 a, .int .i64 b, .int .i64 c] w fun e w' => e = .returned (.int .i64 (clip ((x * y / c : Nat) : Int))) ∧ w = w' := by
  have CA := Lib.hid ca
  have CB := Lib.hid cb
  have HS := Lib.hid (SR.start (x := x) (c := c) (y := y) hc1 (by omega))
  have HC1 := Lib.hid hc1
  obtain ⟨P, hP⟩ : ∃ P, x * y / c = P := ⟨_, rfl⟩
  have HP := Lib.hid hP
  have hD0 : x / c ≤ x := Nat.div_le_self _ _
  have hE0 : x % c < c := Nat.mod_lt _ (by omega)
  have eD : (x : Int) / (c : Int) = ((x / c : Nat) : Int) := rfl
  have eE : (x : Int) % (c : Int) = ((x % c : Nat) : Int) := rfl
  obtain ⟨Z, hZ⟩ : ∃ Z : Int, clip ((x * y / c : Nat) : Int) = Z := ⟨_, rfl⟩
  rw [hZ]
  rw [hP] at hZ
  have HZ := Lib.hid hZ
  clear hZ
  obtain ⟨D, hD⟩ : ∃ D, x / c = D := ⟨_, rfl⟩
  obtain ⟨E, hE⟩ : ∃ E, x % c = E := ⟨_, rfl⟩
  rw [hD] at hD0 eD
  rw [hE] at hE0 eE
  have HDn := Lib.hid hD
  have HEn := Lib.hid hE
  clear hP hD hE ca cb
  obtain ⟨X, hX⟩ : ∃ X : Int, (x : Int) = X := ⟨_, rfl⟩
  obtain ⟨Y, hY⟩ : ∃ Y : Int, (y : Int) = Y := ⟨_, rfl⟩
  obtain ⟨C, hC⟩ : ∃ C : Int, (c : Int) = C := ⟨_, rfl⟩
  obtain ⟨DI, hDI⟩ : ∃ C : Int, (D : Int) = C := ⟨_, rfl⟩
  obtain ⟨EI, hEI⟩ : ∃ C : Int, (E : Int) = C := ⟨_, rfl⟩
  have x0 : 0 ≤ X := by omega
  have x1 : X ≤ 9223372036854775808 := by omega
  have y0 : 0 ≤ Y := by omega
  have y1 : Y ≤ 9223372036854775808 := by omega
  have c0 : 1 ≤ C := by omega
  have c1 : C ≤ 9223372036854775807 := by omega
  have d0 : 0 ≤ DI := by omega
  have d1 : DI ≤ 9223372036854775808 := by omega
  have e0 : 0 ≤ EI := by omega
  have e1 : EI < C := by omega
  have n3 : (C == 0) = false := by rw [beq_eq_false_iff_ne]; omega
  rw [hX, hC, hDI] at eD
  rw [hX, hC, hEI] at eE
  rw [hC]
  rw [hX] at CA
  rw [hY] at CB
  have HX := Lib.hid hX
  have HY := Lib.hid hY
  have HC := Lib.hid hC
  have HD := Lib.hid hDI
  have HE := Lib.hid hEI
  clear hX hY hC hDI hEI hx hy hc1 hc2 hD0 hE0
  rcases hs with ⟨s1, s2⟩ | ⟨s1, s2⟩
  all_goals
    have n1 : (a == 0) = false := by rw [beq_eq_false_iff_ne]; omega
    have n2 : (b == 0) = false := by rw [beq_eq_false_iff_ne]; omega
    go_enter Try.func21, Try.ntmps21
    go_wp2_with fail
    refine (CA.out _).mono ?_
    rintro e w' ⟨rfl, rfl⟩
    go_wp2_with fail
    refine (CB.out _).mono ?_
    rintro e w' ⟨rfl, rfl⟩
    go_wp2_with fail
    go_loop [10, 11, 12] (RelS x c y) (fun _ _ i => (intOf i + 1).toNat)
    case atStart => exact ⟨0, 0, 64, _, rfl, rfl, rfl, rfl, by omega, HS.out⟩
    case round =>
      obtain ⟨q, r, j, I, rfl, rfl, rfl, hI, hj, hsr⟩ := hrel
      obtain ⟨Q, hQ⟩ : ∃ Q : Int, (q : Int) = Q := ⟨_, rfl⟩
      obtain ⟨R, hR⟩ : ∃ Q : Int, (r : Int) = Q := ⟨_, rfl⟩
      rcases j with _ | m
      · have i0 : I < 0 := by omega
        have q1 : Q ≤ 4611686018427387904 := by have := hsr.le; omega
        have q0 : 0 ≤ Q := by omega
        have e : P = q := HP.out.symm.trans hsr.fin
        have e2 : Q = Z := by rw [← HZ.out, e, hQ]; exact (clip_of q0 q1).symm
        have E2 := Lib.hid e2
        rw [hQ, hR]
        clear hI hj hsr e e2 hQ hR
        go_wp2_with fail
        go_ret
        exact ⟨ret_int E2.out, rfl⟩
      have hlt := hsr.lt
      have hle := hsr.le
      have q0 : 0 ≤ Q := by omega
      have q1 : Q ≤ 4611686018427387904 := by omega
      have r0 : 0 ≤ R := by omega
      have r1 : R < C := by have := HC.out; omega
      obtain rfl : I = (m : Int) := by omega
      have m1 : m ≤ 63 := by omega
      rw [hQ, hR]
      have HQ := Lib.hid hQ
      have HR := Lib.hid hR
      have hbd : y / 2 ^ m % 2 = 0 ∨ y / 2 ^ m % 2 = 1 := by omega
      have eb : Y / 2 ^ m % 2 = ((y / 2 ^ m % 2 : Nat) : Int) := by rw [← HY.out, Int.natCast_emod, Int.natCast_ediv]; norm_cast
      have et : (Y / 2 ^ m).tmod 2 = Y / 2 ^ m % 2 := Int.tmod_eq_emod_of_nonneg (by rw [← HY.out]; exact Int.ediv_nonneg (by omega) (Int.le_of_lt (Int.pow_pos (by decide))))
      have HT0 := Lib.hid hsr.two0
      have HT1 := Lib.hid fun h => hsr.two1 h
      clear hsr hI hj hlt hle hQ hR
      by_cases hcar : R < C - R
      · have c2 : R < C - R := by omega
        by_cases hbig : 4611686018427387904 < 2 * Q
        · have hov : 4611686018427387904 < P := by rw [← HP.out]; exact SR.over HC1.out HT0.out SR.z2 (by have := HQ.out; omega)
          have EZ : Hid (4611686018427387904 = Z) := Lib.hid (by rw [← HZ.out, clip_big (n := (P : Int)) (by omega)])
          clear hov eb hbd et
          go_wp2_with fail
          go_ret
          exact ⟨ret_int EZ.out, rfl⟩
        rcases hbd with hb | hb
        · have b1 : (Y / 2 ^ m % 2 == 1) = false := by rw [eb, hb]; rfl
          have b2 : ((Y / 2 ^ m).tmod 2 == 1) = false := by rw [et]; exact b1
          clear b1
          have HB := Lib.hid hb
          clear hb eb et
          go_wp2_with fail
          go_round
          case rel =>
            have hq := HQ.out; have hr := HR.out; have hc := HC.out; have hd := HD.out; have he := HE.out
            exact ⟨2 * q, (2 * r), m, _, by go_num, by go_num, rfl, by omega, by omega, ⟨SR.bit0 HT0.out HB.out, by omega, by omega⟩⟩
          case measure => simp only [intOf]; omega
        · have b1 : (Y / 2 ^ m % 2 == 1) = true := by rw [eb, hb]; rfl
          have b2 : ((Y / 2 ^ m).tmod 2 == 1) = true := by rw [et]; exact b1
          clear b1
          have HB := Lib.hid hb
          have HT2 := Lib.hid (SR.bit1 HT0.out hb)
          have HT3 := Lib.hid fun h => SR.bit1c HT0.out hb h
          rw [HDn.out, HEn.out] at HT2 HT3
          clear hb eb et
          by_cases hcar2 : 2 * R < C - EI
          · have c4 : 2 * R < C - EI := by omega
            by_cases hbig2 : 4611686018427387904 < 2 * Q + DI
            · have hov : 4611686018427387904 < P := by rw [← HP.out]; exact SR.over HC1.out HT2.out SR.z1 (by have := HQ.out; have := HD.out; omega)
              have EZ : Hid (4611686018427387904 = Z) := Lib.hid (by rw [← HZ.out, clip_big (n := (P : Int)) (by omega)])
              clear hov
              go_wp2_with fail
              go_ret
              exact ⟨ret_int EZ.out, rfl⟩
            · go_wp2_with fail
              go_round
              case rel =>
                have hq := HQ.out; have hr := HR.out; have hc := HC.out; have hd := HD.out; have he := HE.out
                exact ⟨(2 * q + D), ((2 * r) + E), m, _, by go_num, by go_num, rfl, by omega, by omega, ⟨HT2.out, by omega, by omega⟩⟩
              case measure => simp only [intOf]; omega
          · have c4 : C - EI ≤ 2 * R := by omega
            by_cases hbig2 : 4611686018427387904 < 2 * Q + DI + 1
            · have hov : 4611686018427387904 < P := by rw [← HP.out]; exact SR.over HC1.out (HT3.out (by have := HR.out; have := HC.out; have := HE.out; omega)) SR.z1 (by have := HQ.out; have := HD.out; omega)
              have EZ : Hid (4611686018427387904 = Z) := Lib.hid (by rw [← HZ.out, clip_big (n := (P : Int)) (by omega)])
              clear hov
              go_wp2_with fail
              go_ret
              exact ⟨ret_int EZ.out, rfl⟩
            · go_wp2_with fail
              go_round
              case rel =>
                have hq := HQ.out; have hr := HR.out; have hc := HC.out; have hd := HD.out; have he := HE.out
                exact ⟨(2 * q + D + 1), ((2 * r) + E - c), m, _, by go_num, by go_num, rfl, by omega, by omega, ⟨(HT3.out (by have := HR.out; have := HC.out; have := HE.out; omega)), by omega, by omega⟩⟩
              case measure => simp only [intOf]; omega
      · have c2 : C - R ≤ R := by omega
        by_cases hbig : 4611686018427387904 < 2 * Q + 1
        · have hov : 4611686018427387904 < P := by rw [← HP.out]; exact SR.over HC1.out (HT1.out (by have := HR.out; have := HC.out; omega)) SR.z2 (by have := HQ.out; omega)
          have EZ : Hid (4611686018427387904 = Z) := Lib.hid (by rw [← HZ.out, clip_big (n := (P : Int)) (by omega)])
          clear hov eb hbd et
          go_wp2_with fail
          go_ret
          exact ⟨ret_int EZ.out, rfl⟩
        rcases hbd with hb | hb
        · have b1 : (Y / 2 ^ m % 2 == 1) = false := by rw [eb, hb]; rfl
          have b2 : ((Y / 2 ^ m).tmod 2 == 1) = false := by rw [et]; exact b1
          clear b1
          have HB := Lib.hid hb
          clear hb eb et
          go_wp2_with fail
          go_round
          case rel =>
            have hq := HQ.out; have hr := HR.out; have hc := HC.out; have hd := HD.out; have he := HE.out
            exact ⟨(2 * q + 1), (2 * r - c), m, _, by go_num, by go_num, rfl, by omega, by omega, ⟨SR.bit0 (HT1.out (by have := HR.out; have := HC.out; omega)) HB.out, by omega, by omega⟩⟩
          case measure => simp only [intOf]; omega
        · have b1 : (Y / 2 ^ m % 2 == 1) = true := by rw [eb, hb]; rfl
          have b2 : ((Y / 2 ^ m).tmod 2 == 1) = true := by rw [et]; exact b1
          clear b1
          have HB := Lib.hid hb
          have HT2 := Lib.hid (SR.bit1 (HT1.out (by have := HR.out; have := HC.out; omega)) hb)
          have HT3 := Lib.hid fun h => SR.bit1c (HT1.out (by have := HR.out; have := HC.out; omega)) hb h
          rw [HDn.out, HEn.out] at HT2 HT3
          clear hb eb et
          by_cases hcar2 : R - (C - R) < C - EI
          · have c4 : R - (C - R) < C - EI := by omega
            by_cases hbig2 : 4611686018427387904 < 2 * Q + 1 + DI
            · have hov : 4611686018427387904 < P := by rw [← HP.out]; exact SR.over HC1.out HT2.out SR.z1 (by have := HQ.out; have := HD.out; omega)
              have EZ : Hid (4611686018427387904 = Z) := Lib.hid (by rw [← HZ.out, clip_big (n := (P : Int)) (by omega)])
              clear hov
              go_wp2_with fail
              go_ret
              exact ⟨ret_int EZ.out, rfl⟩
            · go_wp2_with fail
              go_round
              case rel =>
                have hq := HQ.out; have hr := HR.out; have hc := HC.out; have hd := HD.out; have he := HE.out
                exact ⟨((2 * q + 1) + D), ((2 * r - c) + E), m, _, by go_num, by go_num, rfl, by omega, by omega, ⟨HT2.out, by omega, by omega⟩⟩
              case measure => simp only [intOf]; omega
          · have c4 : C - EI ≤ R - (C - R) := by omega
            by_cases hbig2 : 4611686018427387904 < 2 * Q + 1 + DI + 1
            · have hov : 4611686018427387904 < P := by rw [← HP.out]; exact SR.over HC1.out (HT3.out (by have := HR.out; have := HC.out; have := HE.out; omega)) SR.z1 (by have := HQ.out; have := HD.out; omega)
              have EZ : Hid (4611686018427387904 = Z) := Lib.hid (by rw [← HZ.out, clip_big (n := (P : Int)) (by omega)])
              clear hov
              go_wp2_with fail
              go_ret
              exact ⟨ret_int EZ.out, rfl⟩
            · go_wp2_with fail
              go_round
              case rel =>
                have hq := HQ.out; have hr := HR.out; have hc := HC.out; have hd := HD.out; have he := HE.out
                exact ⟨((2 * q + 1) + D + 1), ((2 * r - c) + E - c), m, _, by go_num, by go_num, rfl, by omega, by omega, ⟨(HT3.out (by have := HR.out; have := HC.out; have := HE.out; omega)), by omega, by omega⟩⟩
              case measure => simp only [intOf]; omega
end Go.Proofs.Ytjnmikncgglfmaa
