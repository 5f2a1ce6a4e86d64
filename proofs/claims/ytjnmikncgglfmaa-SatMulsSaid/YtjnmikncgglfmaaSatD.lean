/- The walk of math/bits.Div64. -/
import Derived.Test.YtjnmikncgglfmaaSatM
import Derived.Test.YtjnmikncgglfmaaShelf
import Derived.Test.YtjnmikncgglfmaaDivPlain
import Derived.Lib.ItoaNum
import Derived.Deep.QuietTactic
import Derived.BigQuiet
import Derived.Deep.LoopGhost
import Derived.Deep.DeepCutAuto
import Derived.Deep.CutRange
namespace Go.Proofs.Ytjnmikncgglfmaa
open Go.RowKit SatPlain DivPlain

theorem lz_any (y : Nat) (h0 : 0 < y) (h1 : y < 18446744073709551616) : ∃ s : Nat, s ≤ 63 ∧ 9223372036854775808 ≤ y * 2 ^ s ∧ y * 2 ^ s < 18446744073709551616 ∧
    ∀ w : World, Calls Try.prog 33 #[.int .u64 y] w fun e w' => e = .returned (.int .i64 s) ∧ w = w' := by
  have hb := Lib.bitLenAux_bounds 64 y (by omega) (by omega)
  have hle := Lib.bitLen_le y 64 (by omega) (by omega)
  have e : Lib.bitLen y = Lib.bitLenAux 64 y := rfl
  rw [← e] at hb
  obtain ⟨b1, b2, b3⟩ := hb
  refine ⟨64 - Lib.bitLen y, by omega, ?_, ?_, fun w => ?_⟩
  · have h2 : 2 ^ (Lib.bitLen y - 1) * 2 ^ (64 - Lib.bitLen y) ≤ y * 2 ^ (64 - Lib.bitLen y) := Nat.mul_le_mul_right _ b2
    rw [← Nat.pow_add, show Lib.bitLen y - 1 + (64 - Lib.bitLen y) = 63 from by omega] at h2
    exact h2
  · have h2 : y * 2 ^ (64 - Lib.bitLen y) < 2 ^ Lib.bitLen y * 2 ^ (64 - Lib.bitLen y) := Nat.mul_lt_mul_of_pos_right b3 (Nat.two_pow_pos _)
    rw [← Nat.pow_add, show Lib.bitLen y + (64 - Lib.bitLen y) = 64 from by omega] at h2
    exact h2
  · refine (Try.bits_LeadingZeros64 (y : Int) w (by omega) (by omega)).mono ?_
    rintro e w' ⟨rfl, rfl⟩
    refine ⟨?_, rfl⟩
    rw [Int.toNat_natCast]
    exact ret_int (by omega)

/-- a quotient, and some remainder -/
def GaveQ (w : World) (q : Int) (e : Ending) (w' : World) : Prop := (∃ r : Int, e = .returned (.tuple #[.int .u64 q, .int .u64 r])) ∧ ∃ n, w' = w.drewN n

theorem div64_small (lo y : Nat) (w : World) (h0 : 0 < y) (hlo : lo < 18446744073709551616) : Calls Try.prog 29 #[.int .u64 0, .int .u64 lo, .int .u64 y] w (GaveQ w ((lo / y : Nat) : Int)) := by
  have e1 : ((y : Int) == 0) = false := by rw [beq_eq_false_iff_ne]; omega
  have e2 : ¬ ((y : Int) ≤ 0) := by omega
  have e3 : (1 : Int) ≤ y := by omega
  go_enter Try.func29, Try.ntmps29
  go_wp2_with fail
  go_quiet (fail)
  go_wp2_with fail
  go_ret2
  have e4 : IntKind.u64.wrap ((lo : Int) / (y : Int)) = ((lo / y : Nat) : Int) := by
    have : lo / y ≤ lo := Nat.div_le_self _ _
    have e : ((lo : Int) / (y : Int)) = ((lo / y : Nat) : Int) := rfl
    rw [IntKind.wrap_u64, e]
    generalize lo / y = k at *
    omega
  exact ⟨⟨_, by simp only [← e4]; rfl⟩, nq, rfl⟩
theorem or_disjoint (a b s : Nat) (hb : b < 2 ^ s) (h : a * 2 ^ s + b < 18446744073709551616) : bits .or .u64 ((a * 2 ^ s : Nat) : Int) (b : Int) = ((a * 2 ^ s + b : Nat) : Int) := by
  rw [bits_or_u64_nat _ _ (by omega) (by omega)]
  congr 1
  rw [Nat.mul_comm]
  exact (Nat.two_pow_add_eq_or_of_lt hb a).symm

/-- the numbers that Div64 works with -/
structure Num (hi lo y s A C Y H L U N N1 N0 : Nat) : Prop where
  dig : Dig H L U N1
  n0 : N0 < 4294967296
  eY : H * 4294967296 + L = Y
  y2 : Y < 18446744073709551616
  f1 : IntKind.u64.wrap ((y : Int) * 2 ^ s) = (Y : Int)
  f2 : (Y : Int) / 4294967296 = (H : Int)
  f3 : bits .and .u64 (Y : Int) 4294967295 = (L : Int)
  f4 : IntKind.u64.wrap ((hi : Int) * 2 ^ s) = (A : Int)
  f5 : (lo : Int) / 2 ^ (64 - s) = (C : Int)
  f6 : bits .or .u64 (A : Int) (C : Int) = (U : Int)
  f7 : IntKind.u64.wrap ((lo : Int) * 2 ^ s) = (N : Int)
  f8 : (N : Int) / 4294967296 = (N1 : Int)
  f9 : bits .and .u64 (N : Int) 4294967295 = (N0 : Int)
  quo : ∀ a b : Nat, a = (U * 4294967296 + N1) / Y → b = ((U * 4294967296 + N1) % Y * 4294967296 + N0) / Y → a * 4294967296 + b = (hi * 18446744073709551616 + lo) / y

theorem pow_cast (s : Nat) : ((2 : Int) ^ s) = ((2 ^ s : Nat) : Int) := by simp
theorem half_eq (Y : Nat) : Y / 4294967296 * 4294967296 + Y % 4294967296 = Y := by omega
theorem three_eq (A C N : Nat) : (A + C) * 18446744073709551616 + N / 4294967296 * 4294967296 + N % 4294967296 = A * 18446744073709551616 + (C * 18446744073709551616 + N) := by omega
theorem num_core (hi lo y s Y A C N : Nat) (hY : (y : Int) * 2 ^ s = (Y : Int)) (hA : (hi : Int) * 2 ^ s = (A : Int)) (hL : (lo : Int) * 2 ^ s = ((C * 18446744073709551616 + N : Nat) : Int))
    (hdiv : (lo : Int) / 2 ^ (64 - s) = (C : Int)) (hor : bits .or .u64 (A : Int) (C : Int) = ((A + C : Nat) : Int)) (y1 : 9223372036854775808 ≤ Y) (y2 : Y < 18446744073709551616) (hu : A + C < Y) (hN : N < 18446744073709551616)
    (hq : (A * 18446744073709551616 + (C * 18446744073709551616 + N)) / Y = (hi * 18446744073709551616 + lo) / y) :
    Num hi lo y s A C Y (Y / 4294967296) (Y % 4294967296) (A + C) N (N / 4294967296) (N % 4294967296) := by
  have HQ := Lib.hid hq
  clear hq
  refine ⟨⟨by omega, by omega, by omega, by omega, by omega⟩, by omega, half_eq Y, y2, ?_, by omega, Mul64.maskN Y y2, ?_, hdiv, hor, ?_, by omega, Mul64.maskN N hN, ?_⟩
  · rw [hY, IntKind.wrap_u64]; omega
  · rw [hA, IntKind.wrap_u64]; omega
  · rw [hL, IntKind.wrap_u64]; omega
  · intro a b ea eb
    have h0 : 0 < Y := by omega
    rw [ea, eb, digits h0, ← HQ.out, three_eq]

theorem num_of (hi lo y s : Nat) (h1 : hi < y) (hlo : lo < 18446744073709551616) (hs : s ≤ 63) (y1 : 9223372036854775808 ≤ y * 2 ^ s) (y2 : y * 2 ^ s < 18446744073709551616) :
    ∃ A C Y H L U N N1 N0, Num hi lo y s A C Y H L U N N1 N0 := by
  have hp := Nat.two_pow_pos s
  have e64 : 2 ^ (64 - s) * 2 ^ s = 18446744073709551616 := by rw [← Nat.pow_add, show 64 - s + s = 64 from by omega]
  have hc : lo / 2 ^ (64 - s) < 2 ^ s := by
    rw [Nat.div_lt_iff_lt_mul (Nat.two_pow_pos _), Nat.mul_comm, e64]; exact hlo
  have hu : hi * 2 ^ s + 2 ^ s ≤ y * 2 ^ s := by
    have : (hi + 1) * 2 ^ s ≤ y * 2 ^ s := Nat.mul_le_mul_right _ h1
    rwa [Nat.add_mul, Nat.one_mul] at this
  have hm : lo * 2 ^ s = lo / 2 ^ (64 - s) * 18446744073709551616 + lo % 2 ^ (64 - s) * 2 ^ s := by
    have hd := Nat.div_add_mod lo (2 ^ (64 - s))
    have h3 : (2 ^ (64 - s) * (lo / 2 ^ (64 - s)) + lo % 2 ^ (64 - s)) * 2 ^ s = lo / 2 ^ (64 - s) * 18446744073709551616 + lo % 2 ^ (64 - s) * 2 ^ s := by
      rw [Nat.add_mul, Nat.mul_right_comm, e64, Nat.mul_comm 18446744073709551616]
    rw [hd] at h3
    exact h3
  have hr : lo % 2 ^ (64 - s) * 2 ^ s < 18446744073709551616 := by
    have := Nat.mul_lt_mul_of_pos_right (Nat.mod_lt lo (Nat.two_pow_pos (64 - s))) hp
    rwa [e64] at this
  have hor := or_disjoint hi (lo / 2 ^ (64 - s)) s hc (by omega)
  have hdiv : (lo : Int) / 2 ^ (64 - s) = ((lo / 2 ^ (64 - s) : Nat) : Int) := by rw [pow_cast, Int.natCast_ediv]
  have hy : (y : Int) * 2 ^ s = ((y * 2 ^ s : Nat) : Int) := by rw [pow_cast, Int.natCast_mul]
  have hh : (hi : Int) * 2 ^ s = ((hi * 2 ^ s : Nat) : Int) := by rw [pow_cast, Int.natCast_mul]
  have hl : (lo : Int) * 2 ^ s = ((lo / 2 ^ (64 - s) * 18446744073709551616 + lo % 2 ^ (64 - s) * 2 ^ s : Nat) : Int) := by rw [← hm, pow_cast, Int.natCast_mul]
  have hq1 := scaled (hi * 18446744073709551616 + lo) y s
  rw [Nat.add_mul, Nat.mul_right_comm hi, hm] at hq1
  exact ⟨_, _, _, _, _, _, _, _, _, num_core hi lo y s _ _ _ _ hy hh hl hdiv hor y1 y2 (by omega) hr hq1⟩

/-- the relation of a digit loop -/
def dM (v : Value) : Nat := (intOf v).toNat
/-- likewise -/
def Rel (H L U N : Nat) (qv rv : Value) : Prop := ∃ q r : Nat, qv = .int .u64 q ∧ rv = .int .u64 r ∧ Guess H L U N q r
/-- the first guess, as the walk spells it -/
theorem guess_of (H L U N1 : Nat) (d : Dig H L U N1) : ∃ Q M R : Nat, (U : Int) / (H : Int) = (Q : Int) ∧ (Q : Int) * (H : Int) = (M : Int) ∧ (U : Int) - (M : Int) = (R : Int) ∧ Q ≤ 4294967297 ∧ M ≤ U ∧ Guess H L U N1 Q R := by
  have gg := DivPlain.start d
  have hm := Nat.div_mul_le_self U H
  refine ⟨U / H, U / H * H, U % H, (Int.natCast_ediv _ _).symm, Int.natCast_mul _ _, ?_, gg.le, hm, gg⟩
  have := gg.eq
  omega
/-- what is left behind the first digit, as the walk spells it -/
theorem rest_of (U N1 Y D : Nat) (hY : 0 < Y) (hY2 : Y < 18446744073709551616) (hD : D = (U * 4294967296 + N1) / Y) :
    ∃ X1 X2 T Tm Z : Nat, IntKind.u64.wrap ((U : Int) * 4294967296) = (X1 : Int) ∧ IntKind.u64.wrap ((X1 : Int) + (N1 : Int)) = (X2 : Int) ∧ (D : Int) * (Y : Int) = (T : Int) ∧
      IntKind.u64.wrap (T : Int) = (Tm : Int) ∧ IntKind.u64.wrap ((X2 : Int) - (Tm : Int)) = (Z : Int) ∧ Z < Y ∧ Z = (U * 4294967296 + N1) % Y := by
  have e := Nat.div_add_mod (U * 4294967296 + N1) Y
  have hl := Nat.mod_lt (U * 4294967296 + N1) hY
  rw [← hD] at e
  have hT : Y * D = D * Y := Nat.mul_comm _ _
  refine ⟨U * 4294967296 % 18446744073709551616, (U * 4294967296 + N1) % 18446744073709551616, D * Y, D * Y % 18446744073709551616, (U * 4294967296 + N1) % Y, ?_, ?_, (Int.natCast_mul _ _).symm, ?_, ?_, hl, rfl⟩
  · rw [IntKind.wrap_u64]; omega
  · rw [IntKind.wrap_u64]; omega
  · rw [IntKind.wrap_u64]
    generalize D * Y = T at *
    omega
  · rw [IntKind.wrap_u64]
    rw [hT] at e
    clear hD hT
    generalize D * Y = T at *
    generalize (U * 4294967296 + N1) % Y = Z at *
    omega
theorem mul_bd {q L : Nat} (hq : q < 4294967296) (hL : L < 4294967296) : ∃ m : Nat, (q : Int) * (L : Int) = (m : Int) ∧ m ≤ 18446744065119617025 ∧ q * L = m :=
  ⟨q * L, (Int.natCast_mul _ _).symm, Lib.half_mul_le (by omega) (by omega), rfl⟩

set_option maxRecDepth 100000 in
set_option maxHeartbeats 8000000 in
theorem div64_great (hi lo y : Nat) (w : World) (h0 : 0 < hi) (h1 : hi < y) (hlo : lo < 18446744073709551616) (hy : y < 18446744073709551616) (qq : Nat) (hqq : qq = (hi * 18446744073709551616 + lo) / y) :
    Calls Try.prog 29 #[.int .u64 hi, .int .u64 lo, .int .u64 y] w (GaveQ w (qq : Int)) := by
  have HQQ := Lib.hid hqq
  clear hqq
  obtain ⟨s, s1, y1, y2, cs⟩ := lz_any y (by omega) hy
  obtain ⟨A, C, Y, H, L, U, N, N1, N0, num⟩ := num_of hi lo y s h1 hlo s1 y1 y2
  have e1 : ((y : Int) == 0) = false := by rw [beq_eq_false_iff_ne]; omega
  have e2 : ((hi : Int) == 0) = false := by rw [beq_eq_false_iff_ne]; omega
  have e3 : ¬ ((y : Int) ≤ hi) := by omega
  have f1 := num.f1
  have f2 := num.f2
  have f3 := num.f3
  have f4 := num.f4
  have f5 := num.f5
  have f6 := num.f6
  have f7 := num.f7
  have f8 := num.f8
  have f9 := num.f9
  have d1 := num.dig.h0
  have d2 := num.dig.h1
  have d3 := num.dig.l1
  have d4 := num.dig.n1
  have d5 := num.n0
  have hY2 := num.y2
  have hUY : U < Y := by have := num.dig.u1; rw [num.eY] at this; exact this
  obtain ⟨Q, M, R, g1, g2, g3, hQ, hM, hG⟩ := guess_of H L U N1 num.dig
  have HG := Lib.hid hG
  have HN := Lib.hid num
  have HD := Lib.hid num.dig
  clear num y1 y2 hG
  go_enter Try.func29, Try.ntmps29
  go_wp2_with (go_at_call 33; refine (cs _).mono ?_; rintro e w' ⟨rfl, rfl⟩)
  clear g1 g2 g3 hM f1 f2 f3 f4 f5 f6 f7 f8 f9
  go_loop [15, 16] (fun qv rv => Rel H L U N1 qv rv) (fun qv _ => dM qv)
  case atStart => exact ⟨_, _, rfl, rfl, HG.out⟩
  case round =>
    obtain ⟨qa, ra, rfl, rfl, hG1⟩ := hrel
    have hr1 := hG1.r1
    have hq1 := hG1.le
    have HG1 := Lib.hid hG1
    clear hG1 HG
    by_cases hA : 4294967296 ≤ qa
    · have i1 : (4294967296 : Int) ≤ (qa : Int) := by omega
      have i2 : (qa : Int) ≤ 4294967297 := by omega
      have i6 : (qa : Int) - 1 = ((qa - 1 : Nat) : Int) := by omega
      by_cases hB : ra + H < 4294967296
      · have HN2 := Lib.hid (DivPlain.next HD.out HG1.out (.inl hA) hB)
        have i3 : (ra : Int) + (H : Int) < 4294967296 := by omega
        have I6 := Lib.hid i6
        clear hA hB hr1 hq1 i6
        go_upto_region 20 with fail
        have i7 : ¬ (4294967296 ≤ ((ra : Int) + (H : Int))) := by omega
        generalize hRH : (ra : Int) + (H : Int) = RH at *
        clear i3
        go_wp2_with fail
        go_round
        case rel => exact ⟨qa - 1, ra + H, by rw [I6.out], by go_num, HN2.out⟩
        case measure => unfold dM; simp only [intOf]; omega
      · have HE := Lib.hid (DivPlain.out HD.out HG1.out (.inl hA) (by omega))
        have HL2 := Lib.hid (DivPlain.digit_lt HD.out)
        have i3 : (4294967296 : Int) ≤ (ra : Int) + (H : Int) := by omega
        have i4 : (ra : Int) < 4294967296 := by omega
        clear hA hB hr1 hq1
        generalize hdd : qa - 1 = Da at *
        clear hdd
        have HDE : Hid (Da = (U * 4294967296 + N1) / Y) := by have e := HE.out; rw [HN.out.eY] at e; exact e
        have hD1 : Da < 4294967296 := by have e := HL2.out; rw [HN.out.eY, ← HDE.out] at e; exact e
        have j1 : (Da : Int) < 4294967296 := by omega
        clear hD1 HE HL2 HG1
        obtain ⟨X1, X2, T, Tm, Z, k1, k2, k3, k4, k5, hZ, hZe⟩ := rest_of U N1 Y Da (by omega) hY2 HDE.out
        have HZ := Lib.hid hZe
        have HD2 := Lib.hid (show Dig H L Z N0 from ⟨d1, d2, d3, d5, by rw [HN.out.eY]; exact hZ⟩)
        obtain ⟨Q2, M2, R2, g1, g2, g3, hQ2, hM2, hG2⟩ := guess_of H L Z N0 HD2.out
        have HG2 := Lib.hid hG2
        clear hZe hG2
        go_wp2_with fail
        clear g1 g2 g3 hM2 hQ2 k1 k2 k3 k4 k5
        go_loop [18, 16] (fun qv rv => Rel H L Z N0 qv rv) (fun qv _ => dM qv)
        case atStart => exact ⟨_, _, rfl, rfl, HG2.out⟩
        case round =>
          obtain ⟨qb, rb, rfl, rfl, hG1⟩ := hrel
          have hr1 := hG1.r1
          have hq1 := hG1.le
          have HG1 := Lib.hid hG1
          clear hG1 HG2
          by_cases hA : 4294967296 ≤ qb
          · have i1 : (4294967296 : Int) ≤ (qb : Int) := by omega
            have i2 : (qb : Int) ≤ 4294967297 := by omega
            have i6 : (qb : Int) - 1 = ((qb - 1 : Nat) : Int) := by omega
            by_cases hB : rb + H < 4294967296
            · have HN2 := Lib.hid (DivPlain.next HD2.out HG1.out (.inl hA) hB)
              have i3 : (rb : Int) + (H : Int) < 4294967296 := by omega
              have I6 := Lib.hid i6
              clear hA hB hr1 hq1 i6
              go_upto_region 27 with fail
              have i7 : ¬ (4294967296 ≤ ((rb : Int) + (H : Int))) := by omega
              generalize hRH : (rb : Int) + (H : Int) = RH at *
              clear i3
              go_wp2_with fail
              go_round
              case rel => exact ⟨qb - 1, rb + H, by rw [I6.out], by go_num, HN2.out⟩
              case measure => unfold dM; simp only [intOf]; omega
            · have HE := Lib.hid (DivPlain.out HD2.out HG1.out (.inl hA) (by omega))
              have HL2 := Lib.hid (DivPlain.digit_lt HD2.out)
              have i3 : (4294967296 : Int) ≤ (rb : Int) + (H : Int) := by omega
              have i4 : (rb : Int) < 4294967296 := by omega
              clear hA hB hr1 hq1
              generalize hdd : qb - 1 = Db at *
              clear hdd
              have hfin : Hid ((qq : Int) = (Da : Int) * 4294967296 + (Db : Int)) := by
                have e := HE.out
                have e2 := HN.out.eY
                rw [e2] at e
                have e3 := HN.out.quo Da Db HDE.out (by rw [← HZ.out]; exact e)
                have e4 := HQQ.out
                rw [← e3] at e4
                have : (qq : Int) = ((Da * 4294967296 + Db : Nat) : Int) := by rw [e4]
                rw [this, Int.natCast_add, Int.natCast_mul]; rfl
              have hE1 : Db < 4294967296 := by have e := HL2.out; rw [← HE.out] at e; exact e
              have j2 : (Db : Int) < 4294967296 := by omega
              clear hE1 HE HL2 HG1 HDE HZ HD2 HN HD HQQ
              go_wp2_with fail
              go_ret2
              rw [hfin.out]
              exact ⟨⟨_, rfl⟩, 0, rfl⟩
          · obtain ⟨mb, hm1, hm2, hm3⟩ := mul_bd (q := qb) (L := L) (by omega) d3
            by_cases hC : 4294967296 * rb + N0 < mb
            · have hcc : 4294967296 * rb + N0 < qb * L := by rw [hm3]; exact hC
              have i1 : (qb : Int) < 4294967296 := by omega
              have i2 : 4294967296 * (rb : Int) + (N0 : Int) < (mb : Int) := by omega
              have i4 : (mb : Int) ≤ 18446744065119617025 := by omega
              have hq0 : 1 ≤ qb := by
                cases qb with
                | zero => rw [Nat.zero_mul] at hm3; omega
                | succ p => omega
              have i5 : (1 : Int) ≤ (qb : Int) := by omega
              have i6 : (qb : Int) - 1 = ((qb - 1 : Nat) : Int) := by omega
              by_cases hB : rb + H < 4294967296
              · have HN2 := Lib.hid (DivPlain.next HD2.out HG1.out (.inr hcc) hB)
                have i3 : (rb : Int) + (H : Int) < 4294967296 := by omega
                have I6 := Lib.hid i6
                have hlt : qb - 1 < qb := by omega
                clear hA hB hr1 hq1 hC hm2 hm3 hcc hq0 i6
                go_upto_region 27 with fail
                have i7 : ¬ (4294967296 ≤ ((rb : Int) + (H : Int))) := by omega
                generalize hRH : (rb : Int) + (H : Int) = RH at *
                clear i3
                go_wp2_with fail
                go_round
                case rel => exact ⟨qb - 1, rb + H, by rw [I6.out], by go_num, HN2.out⟩
                case measure => unfold dM; simp only [intOf]; omega
              · have HE := Lib.hid (DivPlain.out HD2.out HG1.out (.inr hcc) (by omega))
                have HL2 := Lib.hid (DivPlain.digit_lt HD2.out)
                have i3 : (4294967296 : Int) ≤ (rb : Int) + (H : Int) := by omega
                have i7 : (rb : Int) < 4294967296 := by omega
                clear hA hB hr1 hq1 hC hm2 hm3 hcc hq0
                generalize hdd : qb - 1 = Db at *
                clear hdd
                have hfin : Hid ((qq : Int) = (Da : Int) * 4294967296 + (Db : Int)) := by
                  have e := HE.out
                  have e2 := HN.out.eY
                  rw [e2] at e
                  have e3 := HN.out.quo Da Db HDE.out (by rw [← HZ.out]; exact e)
                  have e4 := HQQ.out
                  rw [← e3] at e4
                  have : (qq : Int) = ((Da * 4294967296 + Db : Nat) : Int) := by rw [e4]
                  rw [this, Int.natCast_add, Int.natCast_mul]; rfl
                have hE1 : Db < 4294967296 := by have e := HL2.out; rw [← HE.out] at e; exact e
                have j2 : (Db : Int) < 4294967296 := by omega
                clear hE1 HE HL2 HG1 HDE HZ HD2 HN HD HQQ
                go_wp2_with fail
                go_ret2
                rw [hfin.out]
                exact ⟨⟨_, rfl⟩, 0, rfl⟩
            · have HE := Lib.hid (DivPlain.found HD2.out HG1.out (by rw [hm3]; omega))
              have HL2 := Lib.hid (DivPlain.digit_lt HD2.out)
              have i1 : (qb : Int) < 4294967296 := by omega
              have i2 : (mb : Int) ≤ 4294967296 * (rb : Int) + (N0 : Int) := by omega
              have i4 : (mb : Int) ≤ 18446744065119617025 := by omega
              have i5 : (rb : Int) < 4294967296 := by omega
              clear hm3 hA hr1 hq1 hC hm2
              have hfin : Hid ((qq : Int) = (Da : Int) * 4294967296 + (qb : Int)) := by
                have e := HE.out
                have e2 := HN.out.eY
                rw [e2] at e
                have e3 := HN.out.quo Da qb HDE.out (by rw [← HZ.out]; exact e)
                have e4 := HQQ.out
                rw [← e3] at e4
                have : (qq : Int) = ((Da * 4294967296 + qb : Nat) : Int) := by rw [e4]
                rw [this, Int.natCast_add, Int.natCast_mul]; rfl
              have hE1 : qb < 4294967296 := by have e := HL2.out; rw [← HE.out] at e; exact e
              have j2 : (qb : Int) < 4294967296 := by omega
              clear hE1 HE HL2 HG1 HDE HZ HD2 HN HD HQQ
              obtain ⟨K, hK⟩ : ∃ K : Int, 4294967296 * (rb : Int) + (N0 : Int) = K := ⟨_, rfl⟩
              have k8 : 0 ≤ K := by omega
              have k9 : K < 18446744073709551616 := by omega
              have i9 : (mb : Int) ≤ K := by rw [← hK]; exact i2
              clear i2
              go_upto_region 24 with fail
              go_cut [113] (fun v wx => v = .bool false ∧ wx = w)
              case first =>
                go_wp2_with fail
                go_meet
                exact ⟨by rw [decide_eq_false (by omega), decide_eq_false (by omega)]; rfl, rfl⟩
              case rest =>
                obtain ⟨rfl, rfl⟩ := hcut
                go_wp2_with fail
                go_ret2
                rw [hfin.out]
                exact ⟨⟨_, rfl⟩, 0, rfl⟩
    · obtain ⟨ma, hm1, hm2, hm3⟩ := mul_bd (q := qa) (L := L) (by omega) d3
      by_cases hC : 4294967296 * ra + N1 < ma
      · have hcc : 4294967296 * ra + N1 < qa * L := by rw [hm3]; exact hC
        have i1 : (qa : Int) < 4294967296 := by omega
        have i2 : 4294967296 * (ra : Int) + (N1 : Int) < (ma : Int) := by omega
        have i4 : (ma : Int) ≤ 18446744065119617025 := by omega
        have hq0 : 1 ≤ qa := by
          cases qa with
          | zero => rw [Nat.zero_mul] at hm3; omega
          | succ p => omega
        have i5 : (1 : Int) ≤ (qa : Int) := by omega
        have i6 : (qa : Int) - 1 = ((qa - 1 : Nat) : Int) := by omega
        by_cases hB : ra + H < 4294967296
        · have HN2 := Lib.hid (DivPlain.next HD.out HG1.out (.inr hcc) hB)
          have i3 : (ra : Int) + (H : Int) < 4294967296 := by omega
          have I6 := Lib.hid i6
          have hlt : qa - 1 < qa := by omega
          clear hA hB hr1 hq1 hC hm2 hm3 hcc hq0 i6
          go_upto_region 20 with fail
          have i7 : ¬ (4294967296 ≤ ((ra : Int) + (H : Int))) := by omega
          generalize hRH : (ra : Int) + (H : Int) = RH at *
          clear i3
          go_wp2_with fail
          go_round
          case rel => exact ⟨qa - 1, ra + H, by rw [I6.out], by go_num, HN2.out⟩
          case measure => unfold dM; simp only [intOf]; omega
        · have HE := Lib.hid (DivPlain.out HD.out HG1.out (.inr hcc) (by omega))
          have HL2 := Lib.hid (DivPlain.digit_lt HD.out)
          have i3 : (4294967296 : Int) ≤ (ra : Int) + (H : Int) := by omega
          have i7 : (ra : Int) < 4294967296 := by omega
          clear hA hB hr1 hq1 hC hm2 hm3 hcc hq0
          generalize hdd : qa - 1 = Da at *
          clear hdd
          have HDE : Hid (Da = (U * 4294967296 + N1) / Y) := by have e := HE.out; rw [HN.out.eY] at e; exact e
          have hD1 : Da < 4294967296 := by have e := HL2.out; rw [HN.out.eY, ← HDE.out] at e; exact e
          have j1 : (Da : Int) < 4294967296 := by omega
          clear hD1 HE HL2 HG1
          obtain ⟨X1, X2, T, Tm, Z, k1, k2, k3, k4, k5, hZ, hZe⟩ := rest_of U N1 Y Da (by omega) hY2 HDE.out
          have HZ := Lib.hid hZe
          have HD2 := Lib.hid (show Dig H L Z N0 from ⟨d1, d2, d3, d5, by rw [HN.out.eY]; exact hZ⟩)
          obtain ⟨Q2, M2, R2, g1, g2, g3, hQ2, hM2, hG2⟩ := guess_of H L Z N0 HD2.out
          have HG2 := Lib.hid hG2
          clear hZe hG2
          go_wp2_with fail
          clear g1 g2 g3 hM2 hQ2 k1 k2 k3 k4 k5
          go_loop [18, 16] (fun qv rv => Rel H L Z N0 qv rv) (fun qv _ => dM qv)
          case atStart => exact ⟨_, _, rfl, rfl, HG2.out⟩
          case round =>
            obtain ⟨qb, rb, rfl, rfl, hG1⟩ := hrel
            have hr1 := hG1.r1
            have hq1 := hG1.le
            have HG1 := Lib.hid hG1
            clear hG1 HG2
            by_cases hA : 4294967296 ≤ qb
            · have i1 : (4294967296 : Int) ≤ (qb : Int) := by omega
              have i2 : (qb : Int) ≤ 4294967297 := by omega
              have i6 : (qb : Int) - 1 = ((qb - 1 : Nat) : Int) := by omega
              by_cases hB : rb + H < 4294967296
              · have HN2 := Lib.hid (DivPlain.next HD2.out HG1.out (.inl hA) hB)
                have i3 : (rb : Int) + (H : Int) < 4294967296 := by omega
                have I6 := Lib.hid i6
                clear hA hB hr1 hq1 i6
                go_upto_region 27 with fail
                have i7 : ¬ (4294967296 ≤ ((rb : Int) + (H : Int))) := by omega
                generalize hRH : (rb : Int) + (H : Int) = RH at *
                clear i3
                go_wp2_with fail
                go_round
                case rel => exact ⟨qb - 1, rb + H, by rw [I6.out], by go_num, HN2.out⟩
                case measure => unfold dM; simp only [intOf]; omega
              · have HE := Lib.hid (DivPlain.out HD2.out HG1.out (.inl hA) (by omega))
                have HL2 := Lib.hid (DivPlain.digit_lt HD2.out)
                have i3 : (4294967296 : Int) ≤ (rb : Int) + (H : Int) := by omega
                have i4 : (rb : Int) < 4294967296 := by omega
                clear hA hB hr1 hq1
                generalize hdd : qb - 1 = Db at *
                clear hdd
                have hfin : Hid ((qq : Int) = (Da : Int) * 4294967296 + (Db : Int)) := by
                  have e := HE.out
                  have e2 := HN.out.eY
                  rw [e2] at e
                  have e3 := HN.out.quo Da Db HDE.out (by rw [← HZ.out]; exact e)
                  have e4 := HQQ.out
                  rw [← e3] at e4
                  have : (qq : Int) = ((Da * 4294967296 + Db : Nat) : Int) := by rw [e4]
                  rw [this, Int.natCast_add, Int.natCast_mul]; rfl
                have hE1 : Db < 4294967296 := by have e := HL2.out; rw [← HE.out] at e; exact e
                have j2 : (Db : Int) < 4294967296 := by omega
                clear hE1 HE HL2 HG1 HDE HZ HD2 HN HD HQQ
                go_wp2_with fail
                go_ret2
                rw [hfin.out]
                exact ⟨⟨_, rfl⟩, 0, rfl⟩
            · obtain ⟨mb, hm1, hm2, hm3⟩ := mul_bd (q := qb) (L := L) (by omega) d3
              by_cases hC : 4294967296 * rb + N0 < mb
              · have hcc : 4294967296 * rb + N0 < qb * L := by rw [hm3]; exact hC
                have i1 : (qb : Int) < 4294967296 := by omega
                have i2 : 4294967296 * (rb : Int) + (N0 : Int) < (mb : Int) := by omega
                have i4 : (mb : Int) ≤ 18446744065119617025 := by omega
                have hq0 : 1 ≤ qb := by
                  cases qb with
                  | zero => rw [Nat.zero_mul] at hm3; omega
                  | succ p => omega
                have i5 : (1 : Int) ≤ (qb : Int) := by omega
                have i6 : (qb : Int) - 1 = ((qb - 1 : Nat) : Int) := by omega
                by_cases hB : rb + H < 4294967296
                · have HN2 := Lib.hid (DivPlain.next HD2.out HG1.out (.inr hcc) hB)
                  have i3 : (rb : Int) + (H : Int) < 4294967296 := by omega
                  have I6 := Lib.hid i6
                  have hlt : qb - 1 < qb := by omega
                  clear hA hB hr1 hq1 hC hm2 hm3 hcc hq0 i6
                  go_upto_region 27 with fail
                  have i7 : ¬ (4294967296 ≤ ((rb : Int) + (H : Int))) := by omega
                  generalize hRH : (rb : Int) + (H : Int) = RH at *
                  clear i3
                  go_wp2_with fail
                  go_round
                  case rel => exact ⟨qb - 1, rb + H, by rw [I6.out], by go_num, HN2.out⟩
                  case measure => unfold dM; simp only [intOf]; omega
                · have HE := Lib.hid (DivPlain.out HD2.out HG1.out (.inr hcc) (by omega))
                  have HL2 := Lib.hid (DivPlain.digit_lt HD2.out)
                  have i3 : (4294967296 : Int) ≤ (rb : Int) + (H : Int) := by omega
                  have i7 : (rb : Int) < 4294967296 := by omega
                  clear hA hB hr1 hq1 hC hm2 hm3 hcc hq0
                  generalize hdd : qb - 1 = Db at *
                  clear hdd
                  have hfin : Hid ((qq : Int) = (Da : Int) * 4294967296 + (Db : Int)) := by
                    have e := HE.out
                    have e2 := HN.out.eY
                    rw [e2] at e
                    have e3 := HN.out.quo Da Db HDE.out (by rw [← HZ.out]; exact e)
                    have e4 := HQQ.out
                    rw [← e3] at e4
                    have : (qq : Int) = ((Da * 4294967296 + Db : Nat) : Int) := by rw [e4]
                    rw [this, Int.natCast_add, Int.natCast_mul]; rfl
                  have hE1 : Db < 4294967296 := by have e := HL2.out; rw [← HE.out] at e; exact e
                  have j2 : (Db : Int) < 4294967296 := by omega
                  clear hE1 HE HL2 HG1 HDE HZ HD2 HN HD HQQ
                  go_wp2_with fail
                  go_ret2
                  rw [hfin.out]
                  exact ⟨⟨_, rfl⟩, 0, rfl⟩
              · have HE := Lib.hid (DivPlain.found HD2.out HG1.out (by rw [hm3]; omega))
                have HL2 := Lib.hid (DivPlain.digit_lt HD2.out)
                have i1 : (qb : Int) < 4294967296 := by omega
                have i2 : (mb : Int) ≤ 4294967296 * (rb : Int) + (N0 : Int) := by omega
                have i4 : (mb : Int) ≤ 18446744065119617025 := by omega
                have i5 : (rb : Int) < 4294967296 := by omega
                clear hm3 hA hr1 hq1 hC hm2
                have hfin : Hid ((qq : Int) = (Da : Int) * 4294967296 + (qb : Int)) := by
                  have e := HE.out
                  have e2 := HN.out.eY
                  rw [e2] at e
                  have e3 := HN.out.quo Da qb HDE.out (by rw [← HZ.out]; exact e)
                  have e4 := HQQ.out
                  rw [← e3] at e4
                  have : (qq : Int) = ((Da * 4294967296 + qb : Nat) : Int) := by rw [e4]
                  rw [this, Int.natCast_add, Int.natCast_mul]; rfl
                have hE1 : qb < 4294967296 := by have e := HL2.out; rw [← HE.out] at e; exact e
                have j2 : (qb : Int) < 4294967296 := by omega
                clear hE1 HE HL2 HG1 HDE HZ HD2 HN HD HQQ
                obtain ⟨K, hK⟩ : ∃ K : Int, 4294967296 * (rb : Int) + (N0 : Int) = K := ⟨_, rfl⟩
                have k8 : 0 ≤ K := by omega
                have k9 : K < 18446744073709551616 := by omega
                have i9 : (mb : Int) ≤ K := by rw [← hK]; exact i2
                clear i2
                go_upto_region 24 with fail
                go_cut [113] (fun v wx => v = .bool false ∧ wx = w)
                case first =>
                  go_wp2_with fail
                  go_meet
                  exact ⟨by rw [decide_eq_false (by omega), decide_eq_false (by omega)]; rfl, rfl⟩
                case rest =>
                  obtain ⟨rfl, rfl⟩ := hcut
                  go_wp2_with fail
                  go_ret2
                  rw [hfin.out]
                  exact ⟨⟨_, rfl⟩, 0, rfl⟩
      · have HE := Lib.hid (DivPlain.found HD.out HG1.out (by rw [hm3]; omega))
        have HL2 := Lib.hid (DivPlain.digit_lt HD.out)
        have i1 : (qa : Int) < 4294967296 := by omega
        have i2 : (ma : Int) ≤ 4294967296 * (ra : Int) + (N1 : Int) := by omega
        have i4 : (ma : Int) ≤ 18446744065119617025 := by omega
        have i5 : (ra : Int) < 4294967296 := by omega
        clear hm3 hA hr1 hq1 hC hm2
        have HDE : Hid (qa = (U * 4294967296 + N1) / Y) := by have e := HE.out; rw [HN.out.eY] at e; exact e
        have hD1 : qa < 4294967296 := by have e := HL2.out; rw [HN.out.eY, ← HDE.out] at e; exact e
        have j1 : (qa : Int) < 4294967296 := by omega
        clear hD1 HE HL2 HG1
        obtain ⟨X1, X2, T, Tm, Z, k1, k2, k3, k4, k5, hZ, hZe⟩ := rest_of U N1 Y qa (by omega) hY2 HDE.out
        have HZ := Lib.hid hZe
        have HD2 := Lib.hid (show Dig H L Z N0 from ⟨d1, d2, d3, d5, by rw [HN.out.eY]; exact hZ⟩)
        obtain ⟨Q2, M2, R2, g1, g2, g3, hQ2, hM2, hG2⟩ := guess_of H L Z N0 HD2.out
        have HG2 := Lib.hid hG2
        clear hZe hG2
        obtain ⟨K, hK⟩ : ∃ K : Int, 4294967296 * (ra : Int) + (N1 : Int) = K := ⟨_, rfl⟩
        have k8 : 0 ≤ K := by omega
        have k9 : K < 18446744073709551616 := by omega
        have i9 : (ma : Int) ≤ K := by rw [← hK]; exact i2
        clear i2
        go_upto_region 17 with fail
        go_cut [78] (fun v wx => v = .bool false ∧ wx = w)
        case first =>
          go_wp2_with fail
          go_meet
          exact ⟨by rw [decide_eq_false (by omega), decide_eq_false (by omega)]; rfl, rfl⟩
        case rest =>
          obtain ⟨rfl, rfl⟩ := hcut
          go_wp2_with fail
          clear g1 g2 g3 hM2 hQ2 k1 k2 k3 k4 k5
          go_loop [18, 16] (fun qv rv => Rel H L Z N0 qv rv) (fun qv _ => dM qv)
          case atStart => exact ⟨_, _, rfl, rfl, HG2.out⟩
          case round =>
            obtain ⟨qb, rb, rfl, rfl, hG1⟩ := hrel
            have hr1 := hG1.r1
            have hq1 := hG1.le
            have HG1 := Lib.hid hG1
            clear hG1 HG2
            by_cases hA : 4294967296 ≤ qb
            · have i1 : (4294967296 : Int) ≤ (qb : Int) := by omega
              have i2 : (qb : Int) ≤ 4294967297 := by omega
              have i6 : (qb : Int) - 1 = ((qb - 1 : Nat) : Int) := by omega
              by_cases hB : rb + H < 4294967296
              · have HN2 := Lib.hid (DivPlain.next HD2.out HG1.out (.inl hA) hB)
                have i3 : (rb : Int) + (H : Int) < 4294967296 := by omega
                have I6 := Lib.hid i6
                clear hA hB hr1 hq1 i6
                go_upto_region 27 with fail
                have i7 : ¬ (4294967296 ≤ ((rb : Int) + (H : Int))) := by omega
                generalize hRH : (rb : Int) + (H : Int) = RH at *
                clear i3
                go_wp2_with fail
                go_round
                case rel => exact ⟨qb - 1, rb + H, by rw [I6.out], by go_num, HN2.out⟩
                case measure => unfold dM; simp only [intOf]; omega
              · have HE := Lib.hid (DivPlain.out HD2.out HG1.out (.inl hA) (by omega))
                have HL2 := Lib.hid (DivPlain.digit_lt HD2.out)
                have i3 : (4294967296 : Int) ≤ (rb : Int) + (H : Int) := by omega
                have i4 : (rb : Int) < 4294967296 := by omega
                clear hA hB hr1 hq1
                generalize hdd : qb - 1 = Db at *
                clear hdd
                have hfin : Hid ((qq : Int) = (qa : Int) * 4294967296 + (Db : Int)) := by
                  have e := HE.out
                  have e2 := HN.out.eY
                  rw [e2] at e
                  have e3 := HN.out.quo qa Db HDE.out (by rw [← HZ.out]; exact e)
                  have e4 := HQQ.out
                  rw [← e3] at e4
                  have : (qq : Int) = ((qa * 4294967296 + Db : Nat) : Int) := by rw [e4]
                  rw [this, Int.natCast_add, Int.natCast_mul]; rfl
                have hE1 : Db < 4294967296 := by have e := HL2.out; rw [← HE.out] at e; exact e
                have j2 : (Db : Int) < 4294967296 := by omega
                clear hE1 HE HL2 HG1 HDE HZ HD2 HN HD HQQ
                go_wp2_with fail
                go_ret2
                rw [hfin.out]
                exact ⟨⟨_, rfl⟩, 0, rfl⟩
            · obtain ⟨mb, hm1, hm2, hm3⟩ := mul_bd (q := qb) (L := L) (by omega) d3
              by_cases hC : 4294967296 * rb + N0 < mb
              · have hcc : 4294967296 * rb + N0 < qb * L := by rw [hm3]; exact hC
                have i1 : (qb : Int) < 4294967296 := by omega
                have i2 : 4294967296 * (rb : Int) + (N0 : Int) < (mb : Int) := by omega
                have i4 : (mb : Int) ≤ 18446744065119617025 := by omega
                have hq0 : 1 ≤ qb := by
                  cases qb with
                  | zero => rw [Nat.zero_mul] at hm3; omega
                  | succ p => omega
                have i5 : (1 : Int) ≤ (qb : Int) := by omega
                have i6 : (qb : Int) - 1 = ((qb - 1 : Nat) : Int) := by omega
                by_cases hB : rb + H < 4294967296
                · have HN2 := Lib.hid (DivPlain.next HD2.out HG1.out (.inr hcc) hB)
                  have i3 : (rb : Int) + (H : Int) < 4294967296 := by omega
                  have I6 := Lib.hid i6
                  have hlt : qb - 1 < qb := by omega
                  clear hA hB hr1 hq1 hC hm2 hm3 hcc hq0 i6
                  go_upto_region 27 with fail
                  have i7 : ¬ (4294967296 ≤ ((rb : Int) + (H : Int))) := by omega
                  generalize hRH : (rb : Int) + (H : Int) = RH at *
                  clear i3
                  go_wp2_with fail
                  go_round
                  case rel => exact ⟨qb - 1, rb + H, by rw [I6.out], by go_num, HN2.out⟩
                  case measure => unfold dM; simp only [intOf]; omega
                · have HE := Lib.hid (DivPlain.out HD2.out HG1.out (.inr hcc) (by omega))
                  have HL2 := Lib.hid (DivPlain.digit_lt HD2.out)
                  have i3 : (4294967296 : Int) ≤ (rb : Int) + (H : Int) := by omega
                  have i7 : (rb : Int) < 4294967296 := by omega
                  clear hA hB hr1 hq1 hC hm2 hm3 hcc hq0
                  generalize hdd : qb - 1 = Db at *
                  clear hdd
                  have hfin : Hid ((qq : Int) = (qa : Int) * 4294967296 + (Db : Int)) := by
                    have e := HE.out
                    have e2 := HN.out.eY
                    rw [e2] at e
                    have e3 := HN.out.quo qa Db HDE.out (by rw [← HZ.out]; exact e)
                    have e4 := HQQ.out
                    rw [← e3] at e4
                    have : (qq : Int) = ((qa * 4294967296 + Db : Nat) : Int) := by rw [e4]
                    rw [this, Int.natCast_add, Int.natCast_mul]; rfl
                  have hE1 : Db < 4294967296 := by have e := HL2.out; rw [← HE.out] at e; exact e
                  have j2 : (Db : Int) < 4294967296 := by omega
                  clear hE1 HE HL2 HG1 HDE HZ HD2 HN HD HQQ
                  go_wp2_with fail
                  go_ret2
                  rw [hfin.out]
                  exact ⟨⟨_, rfl⟩, 0, rfl⟩
              · have HE := Lib.hid (DivPlain.found HD2.out HG1.out (by rw [hm3]; omega))
                have HL2 := Lib.hid (DivPlain.digit_lt HD2.out)
                have i1 : (qb : Int) < 4294967296 := by omega
                have i2 : (mb : Int) ≤ 4294967296 * (rb : Int) + (N0 : Int) := by omega
                have i4 : (mb : Int) ≤ 18446744065119617025 := by omega
                have i5 : (rb : Int) < 4294967296 := by omega
                clear hm3 hA hr1 hq1 hC hm2
                have hfin : Hid ((qq : Int) = (qa : Int) * 4294967296 + (qb : Int)) := by
                  have e := HE.out
                  have e2 := HN.out.eY
                  rw [e2] at e
                  have e3 := HN.out.quo qa qb HDE.out (by rw [← HZ.out]; exact e)
                  have e4 := HQQ.out
                  rw [← e3] at e4
                  have : (qq : Int) = ((qa * 4294967296 + qb : Nat) : Int) := by rw [e4]
                  rw [this, Int.natCast_add, Int.natCast_mul]; rfl
                have hE1 : qb < 4294967296 := by have e := HL2.out; rw [← HE.out] at e; exact e
                have j2 : (qb : Int) < 4294967296 := by omega
                clear hE1 HE HL2 HG1 HDE HZ HD2 HN HD HQQ
                obtain ⟨K, hK⟩ : ∃ K : Int, 4294967296 * (rb : Int) + (N0 : Int) = K := ⟨_, rfl⟩
                have k8 : 0 ≤ K := by omega
                have k9 : K < 18446744073709551616 := by omega
                have i9 : (mb : Int) ≤ K := by rw [← hK]; exact i2
                clear i2
                go_upto_region 24 with fail
                go_cut [113] (fun v wx => v = .bool false ∧ wx = wc)
                case first =>
                  go_wp2_with fail
                  go_meet
                  exact ⟨by rw [decide_eq_false (by omega), decide_eq_false (by omega)]; rfl, rfl⟩
                case rest =>
                  obtain ⟨rfl, rfl⟩ := hcut
                  go_wp2_with fail
                  go_ret2
                  rw [hfin.out]
                  exact ⟨⟨_, rfl⟩, 0, rfl⟩

theorem div64_any (hi lo y : Nat) (w : World) (h1 : hi < y) (hlo : lo < 18446744073709551616) (hy : y < 18446744073709551616) :
    Calls Try.prog 29 #[.int .u64 hi, .int .u64 lo, .int .u64 y] w (GaveQ w (((hi * 18446744073709551616 + lo) / y : Nat) : Int)) := by
  by_cases h : hi = 0
  · subst h
    have := div64_small lo y w h1 hlo
    rwa [Nat.zero_mul, Nat.zero_add]
  · exact div64_great hi lo y w (by omega) h1 hlo hy _ rfl
end Go.Proofs.Ytjnmikncgglfmaa
