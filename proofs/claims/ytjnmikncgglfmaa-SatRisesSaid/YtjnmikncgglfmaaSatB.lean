/- The laws of sat's calls in one form; the reference's Scale; awake. -/
import Derived.Test.YtjnmikncgglfmaaSatR
import Derived.Below
namespace Go.Proofs.Ytjnmikncgglfmaa
open Go.RowKit SatPlain

/-- a call answers, and leaves what was there -/
def Gives (f : Nat) (args : Array Value) (r : Value) : Prop := ∀ w : World, Calls Try.prog f args w fun e w' => e = .returned r ∧ Below w.heap.size w w'
theorem gives_of {f : Nat} {args : Array Value} {r : Value} (h : ∀ w : World, Calls Try.prog f args w fun e w' => e = .returned r ∧ w = w') : Gives f args r := by
  intro w
  refine (h w).mono ?_
  rintro e w' ⟨rfl, rfl⟩
  exact ⟨rfl, Below.refl _ _⟩

theorem rScale_any (a b c : Int) (ha : I64 a) (hb : I64 b) (hc : I64 c) (w : World) : Calls Try.prog 21 #[.int .i64 a, .int .i64 b, .int .i64 c] w fun e w' => e = .returned (.int .i64 (scale a b c)) ∧ w = w' := by
  by_cases h : c < 1
  · rw [scale_small h]
    clear ha hb hc
    go_enter Try.func21, Try.ntmps21
    go_wp2_with fail
    go_ret
    exact ⟨rfl, rfl⟩
  have h1 : 1 ≤ c := by omega
  rcases sign_cases a b with rfl | ⟨h, rfl⟩ | ⟨h1, h2⟩ | ⟨h1, h2⟩ | h | h
  · rw [scale_low h1 (by rw [Int.zero_mul]; exact Int.le_refl _)]
    clear ha hb hc h
    go_enter Try.func21, Try.ntmps21
    go_wp2_with fail
    go_ret
    exact ⟨rfl, rfl⟩
  · rw [scale_low h1 (by rw [Int.mul_zero]; exact Int.le_refl _)]
    have n1 : (a == 0) = false := by rw [beq_eq_false_iff_ne]; exact h
    clear ha hb hc h
    go_enter Try.func21, Try.ntmps21
    go_wp2_with fail
    go_ret
    exact ⟨rfl, rfl⟩
  · rw [scale_low (by omega) (mul_apart (by rw [decide_eq_true h1, decide_eq_false (by omega)]; decide))]
    clear ha hb hc
    have n1 : (a == 0) = false := by rw [beq_eq_false_iff_ne]; omega
    have n2 : (b == 0) = false := by rw [beq_eq_false_iff_ne]; omega
    go_enter Try.func21, Try.ntmps21
    go_wp2_with fail
    go_ret
    exact ⟨rfl, rfl⟩
  · rw [scale_low (by omega) (mul_apart (by rw [decide_eq_false (by omega), decide_eq_true h2]; decide))]
    clear ha hb hc
    have n1 : (a == 0) = false := by rw [beq_eq_false_iff_ne]; omega
    have n2 : (b == 0) = false := by rw [beq_eq_false_iff_ne]; omega
    go_enter Try.func21, Try.ntmps21
    go_wp2_with fail
    go_ret
    exact ⟨rfl, rfl⟩
  all_goals
    obtain ⟨k, rfl⟩ := Int.eq_ofNat_of_zero_le (a := c) (by omega)
    have en : ((a.natAbs * b.natAbs : Nat) : Int) = a * b := natAbs_mul_same (by first | rw [decide_eq_false (by omega), decide_eq_false (by omega)] | rw [decide_eq_true (by omega), decide_eq_true (by omega)])
    have e : scale a b k = clip ((a.natAbs * b.natAbs / k : Nat) : Int) := by
      unfold scale
      rw [if_neg (by omega), ← en]; rfl
    rw [e]
    have := ha.1; have := ha.2; have := hb.1; have := hb.2; have := hc.2
    exact rScale_core a b _ _ k w (by first | exact .inl ‹_› | exact .inr ‹_›) (by omega) (by omega) (magnitude_any a ha) (magnitude_any b hb) (by omega) (by omega)

theorem g_pClip (a : Int) : Gives 11 #[.int .i64 a] (.int .i64 (clip a)) := gives_of fun w => pClip_any a w
theorem g_rClip (a : Int) : Gives 12 #[.int .i64 a] (.int .i64 (clip a)) := gives_of fun w => rClip_any a w
theorem g_pAdd (a b : Int) (ha : I64 a) (hb : I64 b) : Gives 13 #[.int .i64 a, .int .i64 b] (.int .i64 (clip (a + b))) := gives_of fun w => pAdd_any a b ha hb w
theorem g_rAdd (a b : Int) (ha : I64 a) (hb : I64 b) : Gives 14 #[.int .i64 a, .int .i64 b] (.int .i64 (clip (a + b))) := gives_of fun w => rAdd_any a b ha hb w
theorem g_pSub (a b : Int) (ha : I64 a) (hb : I64 b) : Gives 15 #[.int .i64 a, .int .i64 b] (.int .i64 (clip (a - b))) := gives_of fun w => pSub_any a b ha hb w
theorem g_rSub (a b : Int) (ha : I64 a) (hb : I64 b) : Gives 16 #[.int .i64 a, .int .i64 b] (.int .i64 (clip (a - b))) := gives_of fun w => rSub_any a b ha hb w
theorem g_pMul (a b : Int) (ha : I64 a) (hb : I64 b) : Gives 18 #[.int .i64 a, .int .i64 b] (.int .i64 (clip (a * b))) := gives_of fun w => pMul_any a b ha hb w
theorem g_rMul (a b : Int) (ha : I64 a) (hb : I64 b) : Gives 19 #[.int .i64 a, .int .i64 b] (.int .i64 (clip (a * b))) := gives_of fun w => rMul_any a b ha hb w
theorem g_pUnits (a b : Int) (ha : I64 a) (hb : I64 b) : Gives 22 #[.int .i64 a, .int .i64 b] (.int .i64 (units a b)) := gives_of fun w => pUnits_any a b ha hb w
theorem g_rUnits (a b : Int) (ha : I64 a) (hb : I64 b) : Gives 23 #[.int .i64 a, .int .i64 b] (.int .i64 (units a b)) := gives_of fun w => rUnits_any a b ha hb w
theorem g_rScale (a b c : Int) (ha : I64 a) (hb : I64 b) (hc : I64 c) : Gives 21 #[.int .i64 a, .int .i64 b, .int .i64 c] (.int .i64 (scale a b c)) := gives_of fun w => rScale_any a b c ha hb hc w
theorem g_pScale (a b c : Int) (ha : I64 a) (hb : I64 b) (hc : I64 c) : Gives 20 #[.int .i64 a, .int .i64 b, .int .i64 c] (.int .i64 (scale a b c)) := fun w => pScale_any a b c ha hb hc w
theorem g_is (n : Int) (h0 : 0 ≤ n) (h1 : n ≤ 4611686018427387904) : Gives 24 #[.int .i64 n] (.bool true) := gives_of fun w => is_any n h0 h1 w
theorem g_awake : Gives 17 #[] (.bool true) := by
  have k0 : Hid (Gives 11 #[.int .i64 (-3)] (.int .i64 0)) := by
    have h := g_pClip (-3)
    rw [show clip ((-3)) = 0 from by decide] at h
    exact Lib.hid h
  have k1 : Hid (Gives 13 #[.int .i64 (4611686018427387904), .int .i64 (1)] (.int .i64 4611686018427387904)) := by
    have h := g_pAdd (4611686018427387904) (1) (by unfold I64; decide) (by unfold I64; decide)
    rw [show clip ((4611686018427387904) + (1)) = 4611686018427387904 from by decide] at h
    exact Lib.hid h
  have k2 : Hid (Gives 13 #[.int .i64 (-5), .int .i64 (3)] (.int .i64 0)) := by
    have h := g_pAdd (-5) (3) (by unfold I64; decide) (by unfold I64; decide)
    rw [show clip ((-5) + (3)) = 0 from by decide] at h
    exact Lib.hid h
  have k3 : Hid (Gives 15 #[.int .i64 (3), .int .i64 (5)] (.int .i64 0)) := by
    have h := g_pSub (3) (5) (by unfold I64; decide) (by unfold I64; decide)
    rw [show clip ((3) - (5)) = 0 from by decide] at h
    exact Lib.hid h
  have k4 : Hid (Gives 15 #[.int .i64 (0), .int .i64 (-9223372036854775808)] (.int .i64 4611686018427387904)) := by
    have h := g_pSub (0) (-9223372036854775808) (by unfold I64; decide) (by unfold I64; decide)
    rw [show clip ((0) - (-9223372036854775808)) = 4611686018427387904 from by decide] at h
    exact Lib.hid h
  have k5 : Hid (Gives 18 #[.int .i64 (-9223372036854775808), .int .i64 (-1)] (.int .i64 4611686018427387904)) := by
    have h := g_pMul (-9223372036854775808) (-1) (by unfold I64; decide) (by unfold I64; decide)
    rw [show clip ((-9223372036854775808) * (-1)) = 4611686018427387904 from by decide] at h
    exact Lib.hid h
  have k6 : Hid (Gives 18 #[.int .i64 (2147483648), .int .i64 (1073741824)] (.int .i64 2305843009213693952)) := by
    have h := g_pMul (2147483648) (1073741824) (by unfold I64; decide) (by unfold I64; decide)
    rw [show clip ((2147483648) * (1073741824)) = 2305843009213693952 from by decide] at h
    exact Lib.hid h
  have k7 : Hid (Gives 20 #[.int .i64 (7), .int .i64 (3), .int .i64 (2)] (.int .i64 10)) := by
    have h := g_pScale (7) (3) (2) (by unfold I64; decide) (by unfold I64; decide) (by unfold I64; decide)
    rw [show scale ((7)) ((3)) ((2)) = 10 from by decide] at h
    exact Lib.hid h
  have k8 : Hid (Gives 20 #[.int .i64 (-1), .int .i64 (-3), .int .i64 (2)] (.int .i64 1)) := by
    have h := g_pScale (-1) (-3) (2) (by unfold I64; decide) (by unfold I64; decide) (by unfold I64; decide)
    rw [show scale ((-1)) ((-3)) ((2)) = 1 from by decide] at h
    exact Lib.hid h
  have k9 : Hid (Gives 22 #[.int .i64 (7), .int .i64 (3)] (.int .i64 3)) := by
    have h := g_pUnits (7) (3) (by unfold I64; decide) (by unfold I64; decide)
    rw [show units ((7)) ((3)) = 3 from by decide] at h
    exact Lib.hid h
  have k10 : Hid (Gives 22 #[.int .i64 (6), .int .i64 (3)] (.int .i64 2)) := by
    have h := g_pUnits (6) (3) (by unfold I64; decide) (by unfold I64; decide)
    rw [show units ((6)) ((3)) = 2 from by decide] at h
    exact Lib.hid h
  intro w
  have B := Lib.hid (Below.refl w.heap.size w)
  go_enter Try.func17, Try.ntmps17
  go_wp2_with fail
  refine (k0.out _).mono ?_
  rintro e w1 ⟨rfl, b1⟩
  replace B := Lib.hid (bel B.out b1); clear b1
  go_wp2_with fail
  refine (k1.out _).mono ?_
  rintro e w1 ⟨rfl, b1⟩
  replace B := Lib.hid (bel B.out b1); clear b1
  go_wp2_with fail
  refine (k2.out _).mono ?_
  rintro e w1 ⟨rfl, b1⟩
  replace B := Lib.hid (bel B.out b1); clear b1
  go_wp2_with fail
  refine (k3.out _).mono ?_
  rintro e w1 ⟨rfl, b1⟩
  replace B := Lib.hid (bel B.out b1); clear b1
  go_wp2_with fail
  refine (k4.out _).mono ?_
  rintro e w1 ⟨rfl, b1⟩
  replace B := Lib.hid (bel B.out b1); clear b1
  go_wp2_with fail
  refine (k5.out _).mono ?_
  rintro e w1 ⟨rfl, b1⟩
  replace B := Lib.hid (bel B.out b1); clear b1
  go_wp2_with fail
  refine (k6.out _).mono ?_
  rintro e w1 ⟨rfl, b1⟩
  replace B := Lib.hid (bel B.out b1); clear b1
  go_wp2_with fail
  refine (k7.out _).mono ?_
  rintro e w1 ⟨rfl, b1⟩
  replace B := Lib.hid (bel B.out b1); clear b1
  go_wp2_with fail
  refine (k8.out _).mono ?_
  rintro e w1 ⟨rfl, b1⟩
  replace B := Lib.hid (bel B.out b1); clear b1
  go_wp2_with fail
  refine (k9.out _).mono ?_
  rintro e w1 ⟨rfl, b1⟩
  replace B := Lib.hid (bel B.out b1); clear b1
  go_wp2_with fail
  refine (k10.out _).mono ?_
  rintro e w1 ⟨rfl, b1⟩
  replace B := Lib.hid (bel B.out b1); clear b1
  go_wp2_with fail
  go_ret
  exact ⟨rfl, B.out⟩
end Go.Proofs.Ytjnmikncgglfmaa
