/- The walks of package sat and of its reference: products. -/
import Derived.Test.YtjnmikncgglfmaaSatA
import Derived.Shelf.Bits.Mul64
namespace Go.Proofs.Ytjnmikncgglfmaa
open Go.RowKit SatPlain

set_option maxHeartbeats 1000000 in
theorem mul64_any (x y : Nat) (hx : x < 18446744073709551616) (hy : y < 18446744073709551616) (w : World) :
    Calls Try.prog 32 #[.int .u64 x, .int .u64 y] w fun e w' => e = .returned (.tuple #[.int .u64 ((x * y / 18446744073709551616 : Nat) : Int), .int .u64 ((x * y % 18446744073709551616 : Nat) : Int)]) ∧ w = w' := by
  obtain ⟨bd, bt, bw, hhi⟩ := Lib.mul64_hi x y hx hy
  have ba := Lib.half_mul_le (a := x / 4294967296) (b := y / 4294967296) (by omega) (by omega)
  have bb := Lib.half_mul_le (a := x / 4294967296) (b := y % 4294967296) (by omega) (by omega)
  have bc := Lib.half_mul_le (a := x % 4294967296) (b := y / 4294967296) (by omega) (by omega)
  have ba' : x / 4294967296 * (y / 4294967296) < 18446744073709551616 := by omega
  have bb' : x / 4294967296 * (y % 4294967296) < 18446744073709551616 := by omega
  have bc' : x % 4294967296 * (y / 4294967296) < 18446744073709551616 := by omega
  have bh1 : x / 4294967296 * (y / 4294967296) + (x / 4294967296 * (y % 4294967296) + x % 4294967296 * (y % 4294967296) / 4294967296) / 4294967296 < 18446744073709551616 := by omega
  have bh : x / 4294967296 * (y / 4294967296) + (x / 4294967296 * (y % 4294967296) + x % 4294967296 * (y % 4294967296) / 4294967296) / 4294967296 + ((x / 4294967296 * (y % 4294967296) + x % 4294967296 * (y % 4294967296) / 4294967296) % 4294967296 + x % 4294967296 * (y / 4294967296)) / 4294967296 < 18446744073709551616 := by omega
  go_enter Try.func32, Try.ntmps32
  go_wp2
  simp only [Mul64.maskN x hx, Mul64.maskN y hy, Mul64.divN, Mul64.mulN, Mul64.addN, Mul64.wrapN _ bd, Mul64.wrapN _ bb', Mul64.wrapN _ bt, Mul64.maskN _ bt, Mul64.wrapN _ bc', Mul64.wrapN _ bw, Mul64.wrapN _ ba', Mul64.wrapN _ bh1, Mul64.wrapN _ bh, Mul64.wrapM (x * y)]
  rw [hhi]
  go_ret2
  exact ⟨rfl, rfl⟩

theorem pSize_neg (n : Int) (w : World) (h0 : -9223372036854775808 ≤ n) (h1 : n < 0) :
    Calls Try.prog 31 #[.int .i64 n] w fun e w' => e = .returned (.tuple #[.int .u64 (-n), .bool true]) ∧ w = w' := by
  have e : IntKind.u64.wrap (-IntKind.u64.wrap n) = -n := by rw [IntKind.wrap_u64, IntKind.wrap_u64]; omega
  go_enter Try.func31, Try.ntmps31
  go_wp2
  go_ret2
  exact ⟨rfl, rfl⟩
theorem pSize_pos (n : Int) (w : World) (h0 : 0 ≤ n) (h1 : n ≤ 9223372036854775807) :
    Calls Try.prog 31 #[.int .i64 n] w fun e w' => e = .returned (.tuple #[.int .u64 n, .bool false]) ∧ w = w' := by
  go_enter Try.func31, Try.ntmps31
  go_wp2
  go_ret2
  exact ⟨rfl, rfl⟩

theorem mul1_big (h l : Int) (w : World) (hh : 0 < h) : Calls Try.prog 26 #[.int .u64 h, .int .u64 l] w fun e w' => e = .returned (.int .u64 4611686018427387904) ∧ w = w' := by
  go_enter Try.func26, Try.ntmps26
  go_wp2
  go_ret
  exact ⟨rfl, rfl⟩
theorem mul1_low (l : Int) (w : World) : Calls Try.prog 26 #[.int .u64 0, .int .u64 l] w fun e w' => e = .returned (.int .u64 l) ∧ w = w' := by
  go_enter Try.func26, Try.ntmps26
  go_wp2
  go_ret
  exact ⟨rfl, rfl⟩

/-- the two sizes, on one side of 0 -/
def Sized (a : Int) (x : Nat) (s : Bool) : Prop := ∀ w : World, Calls Try.prog 31 #[.int .i64 a] w fun e w' => e = .returned (.tuple #[.int .u64 x, .bool s]) ∧ w = w'
theorem sized_of (a : Int) (h : I64 a) : Sized a a.natAbs (decide (a < 0)) := by
  intro w
  by_cases h0 : a < 0
  · have := pSize_neg a w h.1 h0
    rw [show ((a.natAbs : Nat) : Int) = -a from by omega, decide_eq_true h0]
    exact this
  · have := pSize_pos a w (by omega) h.2
    rw [show ((a.natAbs : Nat) : Int) = a from by omega, decide_eq_false h0]
    exact this

theorem product_apart (a b : Int) (fv : Value) (w : World) (x y : Nat) (s : Bool) (ca : Sized a x s) (cb : Sized b y (!s)) :
    Calls Try.prog 25 #[.int .i64 a, .int .i64 b, fv] w fun e w' => e = .returned (.int .i64 0) ∧ w = w' := by
  have CA := Lib.hid ca
  have CB := Lib.hid cb
  clear ca cb
  cases s
  all_goals
    go_enter Try.func25, Try.ntmps25
    go_wp2_with fail
    refine (CA.out _).mono ?_
    rintro e w' ⟨rfl, rfl⟩
    go_wp2_with fail
    refine (CB.out _).mono ?_
    rintro e w' ⟨rfl, rfl⟩
    go_wp2_with fail
    go_ret
    exact ⟨rfl, rfl⟩
theorem product_zero (a b : Int) (fv : Value) (w : World) (x y : Nat) (s : Bool) (ca : Sized a x s) (cb : Sized b y s) (h0 : x = 0 ∨ (0 < x ∧ y = 0)) :
    Calls Try.prog 25 #[.int .i64 a, .int .i64 b, fv] w fun e w' => e = .returned (.int .i64 0) ∧ w = w' := by
  have CA := Lib.hid ca
  have CB := Lib.hid cb
  clear ca cb
  rcases h0 with rfl | ⟨h0, rfl⟩
  · go_enter Try.func25, Try.ntmps25
    go_wp2_with fail
    refine (CA.out _).mono ?_
    rintro e w' ⟨rfl, rfl⟩
    go_wp2_with fail
    refine (CB.out _).mono ?_
    rintro e w' ⟨rfl, rfl⟩
    go_wp2_with fail
    go_ret
    exact ⟨rfl, rfl⟩
  · have h1 : ((x : Int) == 0) = false := by rw [beq_eq_false_iff_ne]; omega
    clear h0
    go_enter Try.func25, Try.ntmps25
    go_wp2_with fail
    refine (CA.out _).mono ?_
    rintro e w' ⟨rfl, rfl⟩
    go_wp2_with fail
    refine (CB.out _).mono ?_
    rintro e w' ⟨rfl, rfl⟩
    go_wp2_with fail
    go_ret
    exact ⟨rfl, rfl⟩

/-- products of two sizes that are not 0, by the closure of Mul -/
theorem product_mul (a b : Int) (w : World) (x y P : Nat) (s : Bool) (ca : Sized a x s) (cb : Sized b y s) (hx : 0 < x) (hy : 0 < y) (hx' : x < 18446744073709551616) (hy' : y < 18446744073709551616) (hP : x * y = P) :
    Calls Try.prog 25 #[.int .i64 a, .int .i64 b, .func (.func 26) #[] #[]] w fun e w' => e = .returned (.int .i64 (clip P)) ∧ w = w' := by
  have cm := mul64_any x y hx' hy' w
  rw [hP] at cm
  have CA := Lib.hid ca
  have CB := Lib.hid cb
  have h1 : ((x : Int) == 0) = false := by rw [beq_eq_false_iff_ne]; omega
  have h2 : ((y : Int) == 0) = false := by rw [beq_eq_false_iff_ne]; omega
  clear ca cb hP
  by_cases hb : 18446744073709551616 ≤ P
  · have hh : (0 : Int) < ((P / 18446744073709551616 : Nat) : Int) := by omega
    rw [clip_big (by omega)]
    have cf := fun l => mul1_big ((P / 18446744073709551616 : Nat) : Int) l w hh
    generalize ((P / 18446744073709551616 : Nat) : Int) = H at *
    generalize ((P % 18446744073709551616 : Nat) : Int) = L at *
    clear hb hx hy
    go_enter Try.func25, Try.ntmps25
    go_wp2_with fail
    refine (CA.out _).mono ?_
    rintro e w' ⟨rfl, rfl⟩
    go_wp2_with fail
    refine (CB.out _).mono ?_
    rintro e w' ⟨rfl, rfl⟩
    go_wp2_with fail
    refine cm.mono ?_
    rintro e w' ⟨rfl, rfl⟩
    go_wp2_with fail
    refine (cf _).mono ?_
    rintro e w' ⟨rfl, rfl⟩
    go_wp2_with fail
    go_ret
    exact ⟨rfl, rfl⟩
  · rw [show P / 18446744073709551616 = 0 from by omega, show P % 18446744073709551616 = P from by omega] at cm
    have cf := mul1_low (P : Int) w
    by_cases hm : 4611686018427387904 < P
    · rw [clip_big (by omega)]
      clear hx hy
      go_enter Try.func25, Try.ntmps25
      go_wp2_with fail
      refine (CA.out _).mono ?_
      rintro e w' ⟨rfl, rfl⟩
      go_wp2_with fail
      refine (CB.out _).mono ?_
      rintro e w' ⟨rfl, rfl⟩
      go_wp2_with fail
      refine cm.mono ?_
      rintro e w' ⟨rfl, rfl⟩
      go_wp2_with fail
      refine cf.mono ?_
      rintro e w' ⟨rfl, rfl⟩
      go_wp2_with fail
      go_ret
      exact ⟨rfl, rfl⟩
    · rw [clip_of (by omega) (by omega)]
      clear hx hy
      go_enter Try.func25, Try.ntmps25
      go_wp2_with fail
      refine (CA.out _).mono ?_
      rintro e w' ⟨rfl, rfl⟩
      go_wp2_with fail
      refine (CB.out _).mono ?_
      rintro e w' ⟨rfl, rfl⟩
      go_wp2_with fail
      refine cm.mono ?_
      rintro e w' ⟨rfl, rfl⟩
      go_wp2_with fail
      refine cf.mono ?_
      rintro e w' ⟨rfl, rfl⟩
      go_wp2_with fail
      go_ret
      exact ⟨rfl, rfl⟩

theorem natAbs_mul_same {a b : Int} (h : decide (a < 0) = decide (b < 0)) : ((a.natAbs * b.natAbs : Nat) : Int) = a * b := by
  rw [decide_eq_decide] at h
  rw [Int.natCast_mul]
  by_cases h0 : a < 0
  · have h1 : b < 0 := h.1 h0
    rw [show ((a.natAbs : Nat) : Int) = -a from by omega, show ((b.natAbs : Nat) : Int) = -b from by omega, Int.neg_mul_neg]
  · have h1 : ¬ b < 0 := fun x => h0 (h.2 x)
    rw [show ((a.natAbs : Nat) : Int) = a from by omega, show ((b.natAbs : Nat) : Int) = b from by omega]
theorem mul_apart {a b : Int} (h : decide (a < 0) ≠ decide (b < 0)) : a * b ≤ 0 := by
  by_cases h0 : a < 0
  · have h1 : 0 ≤ b := by
      rcases Int.lt_or_le b 0 with hb | hb
      · exact absurd (by rw [decide_eq_true h0, decide_eq_true hb]) h
      · exact hb
    exact Int.mul_nonpos_of_nonpos_of_nonneg (by omega) h1
  · have h1 : b < 0 := by
      rcases Int.lt_or_le b 0 with hb | hb
      · exact hb
      · exact absurd (by rw [decide_eq_false h0, decide_eq_false (by omega)]) h
    exact Int.mul_nonpos_of_nonneg_of_nonpos (by omega) (by omega)

theorem pMul_any (a b : Int) (ha : I64 a) (hb : I64 b) (w : World) : Calls Try.prog 18 #[.int .i64 a, .int .i64 b] w fun e w' => e = .returned (.int .i64 (clip (a * b))) ∧ w = w' := by
  have sa := sized_of a ha
  have sb := sized_of b hb
  have c : Calls Try.prog 25 #[.int .i64 a, .int .i64 b, .func (.func 26) #[] #[]] w fun e w' => e = .returned (.int .i64 (clip (a * b))) ∧ w = w' := by
    by_cases hs : decide (a < 0) = decide (b < 0)
    · rw [← natAbs_mul_same hs]
      rw [← hs] at sb
      by_cases h0 : a.natAbs = 0 ∨ (0 < a.natAbs ∧ b.natAbs = 0)
      · rw [clip_neg (by rcases h0 with h | ⟨_, h⟩ <;> rw [h] <;> simp)]
        exact product_zero a b _ w _ _ _ sa sb h0
      · exact product_mul a b w _ _ _ _ sa sb (by omega) (by omega) (by have := ha.1; have := ha.2; omega) (by have := hb.1; have := hb.2; omega) rfl
    · rw [clip_neg (mul_apart hs)]
      have e : decide (b < 0) = !decide (a < 0) := by
        cases h1 : decide (a < 0) <;> cases h2 : decide (b < 0) <;> simp_all
      rw [e] at sb
      exact product_apart a b _ w _ _ _ sa sb
  clear sa sb
  go_enter Try.func18, Try.ntmps18
  go_wp2_with fail
  refine c.mono ?_
  rintro e w' ⟨rfl, rfl⟩
  go_wp2_with fail
  go_ret
  exact ⟨rfl, rfl⟩

/-! ### the reference -/
/-- how far from 0, at most Most -/
def far (n : Int) : Int := clip n.natAbs
theorem rSize_any (n : Int) (h : I64 n) (w : World) : Calls Try.prog 27 #[.int .i64 n] w fun e w' => e = .returned (.int .i64 (far n)) ∧ w = w' := by
  obtain ⟨h0, h1⟩ := h
  unfold far
  by_cases p1 : n < -4611686018427387904
  · rw [clip_big (by omega)]
    go_enter Try.func27, Try.ntmps27
    go_wp2_with fail
    go_ret
    exact ⟨rfl, rfl⟩
  by_cases p2 : n < 0
  · rw [show ((n.natAbs : Nat) : Int) = -n from by omega]
    have c := rClip_any (-n) w
    go_enter Try.func27, Try.ntmps27
    go_wp2_with (go_at_call 12; refine c.mono ?_; rintro e w' ⟨rfl, rfl⟩)
    go_ret
    exact ⟨rfl, rfl⟩
  · rw [show ((n.natAbs : Nat) : Int) = n from by omega]
    have c := rClip_any n w
    go_enter Try.func27, Try.ntmps27
    go_wp2_with (go_at_call 12; refine c.mono ?_; rintro e w' ⟨rfl, rfl⟩)
    go_ret
    exact ⟨rfl, rfl⟩

/-- the signs, decided as the reference asks of them -/
theorem sign_cases (a b : Int) : a = 0 ∨ (a ≠ 0 ∧ b = 0) ∨ (a < 0 ∧ 0 < b) ∨ (0 < a ∧ b < 0) ∨ (0 < a ∧ 0 < b) ∨ (a < 0 ∧ b < 0) := by omega

theorem rMul_core (a b x y : Int) (w : World) (hs : (0 < a ∧ 0 < b) ∨ (a < 0 ∧ b < 0)) (ca : ∀ w, Calls Try.prog 27 #[.int .i64 a] w fun e w' => e = .returned (.int .i64 x) ∧ w = w')
    (cb : ∀ w, Calls Try.prog 27 #[.int .i64 b] w fun e w' => e = .returned (.int .i64 y) ∧ w = w') (hx : 0 ≤ x) (_hx : x ≤ 4611686018427387904) (hy : 1 ≤ y) (hy' : y ≤ 4611686018427387904) :
    Calls Try.prog 19 #[.int .i64 a, .int .i64 b] w fun e w' => e = .returned (.int .i64 (clip (x * y))) ∧ w = w' := by
  have CA := Lib.hid ca
  have CB := Lib.hid cb
  clear ca cb
  have hq := mul_ref (x := x) hy
  by_cases hm : 4611686018427387904 < x * y
  · rw [clip_big (by omega)]
    have hq' : 4611686018427387904 / y < x := by rw [hq]; exact hm
    clear hq hm
    rcases hs with ⟨s1, s2⟩ | ⟨s1, s2⟩
    all_goals
      have n1 : (a == 0) = false := by rw [beq_eq_false_iff_ne]; omega
      have n2 : (b == 0) = false := by rw [beq_eq_false_iff_ne]; omega
      go_enter Try.func19, Try.ntmps19
      go_wp2_with fail
      refine (CA.out _).mono ?_
      rintro e w' ⟨rfl, rfl⟩
      go_wp2_with fail
      refine (CB.out _).mono ?_
      rintro e w' ⟨rfl, rfl⟩
      go_wp2_with fail
      go_ret
      exact ⟨rfl, rfl⟩
  · have h0 := Int.mul_nonneg hx (show 0 ≤ y by omega)
    have h1 : x * y ≤ 4611686018427387904 := by omega
    rw [clip_of h0 h1]
    have hq' : ¬ 4611686018427387904 / y < x := by rw [hq]; exact hm
    clear hq hm
    rcases hs with ⟨s1, s2⟩ | ⟨s1, s2⟩
    all_goals
      have n1 : (a == 0) = false := by rw [beq_eq_false_iff_ne]; omega
      have n2 : (b == 0) = false := by rw [beq_eq_false_iff_ne]; omega
      go_enter Try.func19, Try.ntmps19
      go_wp2_with fail
      refine (CA.out _).mono ?_
      rintro e w' ⟨rfl, rfl⟩
      go_wp2_with fail
      refine (CB.out _).mono ?_
      rintro e w' ⟨rfl, rfl⟩
      go_wp2_with fail
      go_ret
      exact ⟨rfl, rfl⟩

theorem clip_far {a b : Int} (h : (0 < a ∧ 0 < b) ∨ (a < 0 ∧ b < 0)) : clip (far a * far b) = clip (a * b) := by
  have e : a * b = ((a.natAbs : Nat) : Int) * ((b.natAbs : Nat) : Int) := by
    rw [← Int.natCast_mul, natAbs_mul_same]
    rcases h with ⟨h1, h2⟩ | ⟨h1, h2⟩
    · rw [decide_eq_false (by omega), decide_eq_false (by omega)]
    · rw [decide_eq_true h1, decide_eq_true h2]
  rw [e]
  unfold far
  have ha : (0 : Int) ≤ a.natAbs := by omega
  have hb : (1 : Int) ≤ b.natAbs := by omega
  have ha1 : (1 : Int) ≤ a.natAbs := by omega
  generalize (a.natAbs : Int) = x at *
  generalize (b.natAbs : Int) = y at *
  by_cases hy : y ≤ 4611686018427387904
  · rw [clip_of (n := y) (by omega) hy]
    have := mul_clip_l (x := x) (y := 1) (z := y) ha (by decide) (by omega)
    rw [Int.mul_one] at this
    exact this
  · rw [clip_big (n := y) (by omega)]
    have h1 : 1 * 4611686018427387904 ≤ clip x * 4611686018427387904 := Int.mul_le_mul_of_nonneg_right (by unfold clip; split <;> (try split) <;> omega) (by decide)
    have h2 : 1 * y ≤ x * y := Int.mul_le_mul_of_nonneg_right ha1 (by omega)
    rw [clip_big (by omega), clip_big (by omega)]
theorem far_bd {a : Int} (h : a ≠ 0) : 1 ≤ far a ∧ far a ≤ 4611686018427387904 := by
  refine ⟨?_, clip_hi _⟩
  unfold far clip; split <;> (try split) <;> omega

theorem rMul_any (a b : Int) (ha : I64 a) (hb : I64 b) (w : World) : Calls Try.prog 19 #[.int .i64 a, .int .i64 b] w fun e w' => e = .returned (.int .i64 (clip (a * b))) ∧ w = w' := by
  rcases sign_cases a b with rfl | ⟨h, rfl⟩ | ⟨h1, h2⟩ | ⟨h1, h2⟩ | h | h
  · rw [Int.zero_mul, clip_neg (by decide)]
    clear ha hb
    go_enter Try.func19, Try.ntmps19
    go_wp2_with fail
    go_ret
    exact ⟨rfl, rfl⟩
  · rw [Int.mul_zero, clip_neg (by decide)]
    clear ha hb
    have n1 : (a == 0) = false := by rw [beq_eq_false_iff_ne]; omega
    clear h
    go_enter Try.func19, Try.ntmps19
    go_wp2_with fail
    go_ret
    exact ⟨rfl, rfl⟩
  · rw [clip_neg (mul_apart (by rw [decide_eq_true h1, decide_eq_false (by omega)]; decide))]
    clear ha hb
    have n1 : (a == 0) = false := by rw [beq_eq_false_iff_ne]; omega
    have n2 : (b == 0) = false := by rw [beq_eq_false_iff_ne]; omega
    go_enter Try.func19, Try.ntmps19
    go_wp2_with fail
    go_ret
    exact ⟨rfl, rfl⟩
  · rw [clip_neg (mul_apart (by rw [decide_eq_false (by omega), decide_eq_true h2]; decide))]
    clear ha hb
    have n1 : (a == 0) = false := by rw [beq_eq_false_iff_ne]; omega
    have n2 : (b == 0) = false := by rw [beq_eq_false_iff_ne]; omega
    go_enter Try.func19, Try.ntmps19
    go_wp2_with fail
    go_ret
    exact ⟨rfl, rfl⟩
  · rw [← clip_far (.inl h)]
    have fa := far_bd (a := a) (by omega)
    have fb := far_bd (a := b) (by omega)
    exact rMul_core a b _ _ w (.inl h) (rSize_any a ha) (rSize_any b hb) (by omega) fa.2 fb.1 fb.2
  · rw [← clip_far (.inr h)]
    have fa := far_bd (a := a) (by omega)
    have fb := far_bd (a := b) (by omega)
    exact rMul_core a b _ _ w (.inr h) (rSize_any a ha) (rSize_any b hb) (by omega) fa.2 fb.1 fb.2
end Go.Proofs.Ytjnmikncgglfmaa
