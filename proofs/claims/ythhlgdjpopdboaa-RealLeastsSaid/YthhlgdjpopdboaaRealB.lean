/- The walks of the reference of package real: kinds. -/
import Derived.Test.YthhlgdjpopdboaaRealA
namespace Go.Proofs.Ythhlgdjpopdboaa
open Go.RowKit FloatPlain Ieee

theorem ret_kb {k k' : Int} {b b' : Bool} (h : k = k') (g : b = b') : Ending.returned (.tuple #[.int .u8 k, .bool b]) = .returned (.tuple #[.int .u8 k', .bool b']) := by rw [h, g]
theorem ret_b {b b' : Bool} (g : b = b') : Ending.returned (.bool b) = .returned (.bool b') := by rw [g]
theorem sgn_div {a : Nat} (ha : a < 2 ^ 64) : ((a : Int) / 9223372036854775808 == 1) = sgn a := by
  unfold sgn
  rw [Bool.eq_iff_iff, beq_iff_eq, beq_iff_eq]
  omega
theorem kind_EM (a : Nat) : kindI a = (if (a : Int) / 4503599627370496 % 2048 = 2047 then (if (a : Int) % 4503599627370496 = 0 then 1 else 0) else if (a : Int) / 4503599627370496 % 2048 = 0 then (if (a : Int) % 4503599627370496 = 0 then 4 else 3) else 2) := by
  unfold kindI rung inf
  repeat' split
  all_goals omega
theorem rKind_any (a : Nat) (ha : a < 2 ^ 64) (w : World) : Calls Try.prog 14 #[.int .u64 a] w fun e w' => e = .returned (.tuple #[.int .u8 (kindI a), .bool (sgn a)]) ∧ w = w' := by
  have hs := Lib.hid (sgn_div ha)
  have hk := Lib.hid (kind_EM a)
  clear ha
  go_enter Try.func14, Try.ntmps14
  go_wp2_with fail
  all_goals
    go_ret2
    refine ⟨ret_kb ?_ hs.out, rfl⟩
    rw [hk.out]
    simp_all
theorem rnan_any (a : Nat) (ha : a < 2 ^ 64) (w : World) : Calls Try.prog 32 #[.int .u64 a] w fun e w' => e = .returned (.bool (isNaN a)) ∧ w = w' := by
  have k := fun w => rKind_any a ha w
  have e : (kindI a == 0) = isNaN a := by
    unfold kindI isNaN
    by_cases h : inf < rung a
    · rw [if_pos h]; simp [h]
    · rw [if_neg h]
      have : decide (inf < rung a) = false := by simpa using h
      rw [this]
      split
      · rfl
      split
      · rfl
      split <;> rfl
  have E := Lib.hid e
  clear e ha
  go_enter Try.func32, Try.ntmps32
  go_wp2_with (go_at_call 14; refine (k _).mono ?_; rintro e w' ⟨rfl, rfl⟩)
  go_ret
  exact ⟨ret_b E.out, rfl⟩
theorem rCanon_any (a : Nat) (ha : a < 2 ^ 64) (w : World) : Calls Try.prog 18 #[.int .u64 a] w fun e w' => e = .returned (.int .u64 (canon a : Nat)) ∧ w = w' := by
  have n := fun w => rnan_any a ha w
  by_cases h : inf < rung a
  · have e : canon a = 9221120237041090560 := canon_nan.2 h
    have h1 : isNaN a = true := by unfold isNaN; simpa using h
    rw [h1] at n
    rw [e]
    clear e h h1 ha
    go_enter Try.func18, Try.ntmps18
    go_wp2_with (go_at_call 32; refine (n _).mono ?_; rintro e w' ⟨rfl, rfl⟩)
    go_ret
    exact ⟨rfl, rfl⟩
  · have h1 : isNaN a = false := by unfold isNaN; simpa using h
    rw [h1] at n
    rw [canon_of (by omega)]
    clear h h1 ha
    go_enter Try.func18, Try.ntmps18
    go_wp2_with (go_at_call 32; refine (n _).mono ?_; rintro e w' ⟨rfl, rfl⟩)
    go_ret
    exact ⟨rfl, rfl⟩

/-! equality -/
theorem equal_any (a b : Nat) (ha : a < 2 ^ 64) (hb : b < 2 ^ 64) (w : World) : Calls Try.prog 20 #[.int .u64 a, .int .u64 b] w fun e w' => e = .returned (.bool (eqB a b)) ∧ w = w' := by
  have o := fun w => of_any a w
  have o' := fun w => of_any b w
  have e := Lib.hid (show (FloatKind.f64.format.order a b == some .eq) = eqB a b from float_eq ha hb)
  clear ha hb
  go_enter Try.func20, Try.ntmps20
  go_wp2_with fail
  refine (o _).mono ?_
  rintro e w' ⟨rfl, rfl⟩
  go_wp2_with fail
  refine (o' _).mono ?_
  rintro e w' ⟨rfl, rfl⟩
  go_wp2_with fail
  go_ret
  exact ⟨ret_b e.out, rfl⟩
theorem kind_nan (a : Nat) : (kindI a = 0) ↔ inf < rung a := by
  unfold kindI
  constructor
  · intro h
    by_cases g : inf < rung a
    · exact g
    · rw [if_neg g] at h
      split at h
      · omega
      split at h
      · omega
      split at h <;> omega
  · intro h; rw [if_pos h]
theorem kind_zero (a : Nat) : (kindI a = 4) ↔ rung a = 0 := by
  unfold kindI inf
  constructor
  · intro h
    split at h
    · omega
    split at h
    · omega
    split at h
    · omega
    split at h
    · assumption
    · omega
  · intro h; rw [if_neg (by omega), if_neg (by omega), if_neg (by omega), if_pos h]
theorem eqB_kind (a b : Nat) : eqB a b = (decide (kindI a ≠ 0) && decide (kindI b ≠ 0) && (decide ((a : Int) = b) || (decide (kindI a = 4) && decide (kindI b = 4)))) := by
  unfold eqB isNaN
  have e : decide (a = b) = decide ((a : Int) = b) := by rw [decide_eq_decide]; omega
  rw [e]
  simp only [kind_nan, kind_zero, ne_eq, decide_not]
theorem rEqual_any (a b : Nat) (ha : a < 2 ^ 64) (hb : b < 2 ^ 64) (w : World) : Calls Try.prog 21 #[.int .u64 a, .int .u64 b] w fun e w' => e = .returned (.bool (eqB a b)) ∧ w = w' := by
  have o := fun w => rKind_any a ha w
  have o' := fun w => rKind_any b hb w
  have E := Lib.hid (eqB_kind a b)
  clear ha hb
  generalize kindI a = ka at *
  generalize kindI b = kb at *
  go_enter Try.func21, Try.ntmps21
  go_wp2_with fail
  refine (o _).mono ?_
  rintro e w' ⟨rfl, rfl⟩
  go_wp2_with fail
  refine (o' _).mono ?_
  rintro e w' ⟨rfl, rfl⟩
  go_wp2_with fail
  all_goals
    go_ret
    refine ⟨ret_b ?_, rfl⟩
    rw [E.out]
    clear E o o'
    by_cases c1 : ka = 0 <;> by_cases c2 : kb = 0 <;> by_cases c3 : (a : Int) = b <;> by_cases c4 : ka = 4 <;> by_cases c5 : kb = 4 <;> simp_all

/-! the order -/
theorem xor_ones (w : Nat) (hw : w < 2 ^ 64) : bits .xor .u64 IntKind.u64.max (w : Int) = ((18446744073709551615 - w : Nat) : Int) := by
  have := bits_xor_u64_nat 18446744073709551615 w (by decide) hw
  rw [show IntKind.u64.max = ((18446744073709551615 : Nat) : Int) from rfl, this]
  congr 1
  have e1 : 18446744073709551615 - w = 2 ^ 64 - (w + 1) := by omega
  have e2 : 18446744073709551615 = 2 ^ 64 - 1 := rfl
  rw [e1, e2]
  refine Nat.eq_of_testBit_eq fun i => ?_
  rw [Nat.testBit_xor, Nat.testBit_two_pow_sub_one, Nat.testBit_two_pow_sub_succ hw]
  by_cases h : i < 64
  · simp [h]
  · have : w.testBit i = false := Nat.testBit_lt_two_pow (Nat.lt_of_lt_of_le hw (Nat.pow_le_pow_right (by decide) (by omega)))
    simp [h, this]
theorem or_sign (w : Nat) (hw : w < 2 ^ 63) : bits .or .u64 (w : Int) 9223372036854775808 = ((w + 9223372036854775808 : Nat) : Int) := by
  have := bits_or_u64_nat w 9223372036854775808 (by omega) (by decide)
  rw [show ((9223372036854775808 : Nat) : Int) = 9223372036854775808 from rfl] at this
  rw [this]
  congr 1
  have e := Nat.two_pow_add_eq_or_of_lt hw 1
  rw [Nat.or_comm, ← show 2 ^ 63 * 1 = 9223372036854775808 from rfl, ← e, Nat.add_comm]
theorem key_any (a : Nat) (ha : a < 2 ^ 64) (w : World) : Calls Try.prog 34 #[.int .u64 a] w fun e w' => e = .returned (.int .u64 (key a : Nat)) ∧ w = w' := by
  have o := fun w => canon_any a w
  have hl := canon_lt ha
  have hs := and_sign (canon a) hl
  unfold key
  generalize canon a = c at *
  by_cases hg : 9223372036854775808 ≤ c
  · rw [if_pos hg]
    have hsg : sgn c = true := by unfold sgn; simp; omega
    rw [hsg] at hs
    have hx := xor_ones c hl
    clear ha hl hg hsg
    go_enter Try.func34, Try.ntmps34
    go_wp2_with fail
    refine (o _).mono ?_
    rintro e w' ⟨rfl, rfl⟩
    go_wp2_with fail
    all_goals
      go_ret
      exact ⟨ret_int (by simp), rfl⟩
  · rw [if_neg hg]
    have hsg : sgn c = false := by unfold sgn; simp; omega
    rw [hsg] at hs
    have hx := or_sign c (by omega)
    clear ha hl hg hsg
    go_enter Try.func34, Try.ntmps34
    go_wp2_with fail
    refine (o _).mono ?_
    rintro e w' ⟨rfl, rfl⟩
    go_wp2_with fail
    go_ret
    exact ⟨rfl, rfl⟩
theorem isNaN64_any (a : Int) (w : World) : Calls Try.prog 39 #[.int .u64 a] w fun e w' => e = .returned (.bool false) ∧ w = w' := by
  go_enter Try.func39, Try.ntmps39
  go_wp2_with fail
  go_ret
  exact ⟨rfl, rfl⟩
def cmpN (a b : Nat) : Int := if a < b then -1 else if b < a then 1 else 0
theorem cmp_any (a b : Nat) (w : World) : Calls Try.prog 33 #[.int .u64 a, .int .u64 b] w fun e w' => e = .returned (.int .i64 (cmpN a b)) ∧ w = w' := by
  unfold cmpN
  have n := fun a w => isNaN64_any a w
  rcases Nat.lt_trichotomy a b with h | h | h
  · rw [if_pos h]
    go_enter Try.func33, Try.ntmps33
    go_wp2_with (go_at_call 39; refine (n _ _).mono ?_; rintro e w' ⟨rfl, rfl⟩)
    go_ret
    exact ⟨rfl, rfl⟩
  · rw [if_neg (by omega), if_neg (by omega)]
    subst h
    go_enter Try.func33, Try.ntmps33
    go_wp2_with (go_at_call 39; refine (n _ _).mono ?_; rintro e w' ⟨rfl, rfl⟩)
    go_ret
    exact ⟨rfl, rfl⟩
  · rw [if_neg (by omega), if_pos h]
    go_enter Try.func33, Try.ntmps33
    go_wp2_with (go_at_call 39; refine (n _ _).mono ?_; rintro e w' ⟨rfl, rfl⟩)
    go_ret
    exact ⟨rfl, rfl⟩
theorem compare_any (a b : Nat) (ha : a < 2 ^ 64) (hb : b < 2 ^ 64) (w : World) : Calls Try.prog 22 #[.int .u64 a, .int .u64 b] w fun e w' => e = .returned (.int .i64 (cmpI a b)) ∧ w = w' := by
  have o := fun w => key_any a ha w
  have o' := fun w => key_any b hb w
  have E := Lib.hid (show cmpI a b = cmpN (key a) (key b) from rfl)
  generalize cmpI a b = r at *
  generalize key a = ka at *
  generalize key b = kb at *
  clear ha hb
  go_enter Try.func22, Try.ntmps22
  go_wp2_with fail
  refine (o _).mono ?_
  rintro e w' ⟨rfl, rfl⟩
  go_wp2_with fail
  refine (o' _).mono ?_
  rintro e w' ⟨rfl, rfl⟩
  go_wp2_with fail
  refine (cmp_any ka kb _).mono ?_
  rintro e w' ⟨rfl, rfl⟩
  go_wp2_with fail
  go_ret
  exact ⟨ret_int E.out.symm, rfl⟩
/-- the reference's order is that of the keys -/
theorem cmpI_ref {a b : Nat} (ha : a < 2 ^ 64) (hb : b < 2 ^ 64) : cmpI a b =
    if canon a = canon b then 0 else if (if 9223372036854775808 ≤ canon a ∧ 9223372036854775808 ≤ canon b then decide (canon b < canon a) else if 9223372036854775808 ≤ canon a ∨ 9223372036854775808 ≤ canon b then decide (9223372036854775808 ≤ canon a) else decide (canon a < canon b)) = true then -1 else 1 := by
  have h1 := canon_lt ha
  have h2 := canon_lt hb
  unfold cmpI key
  generalize canon a = x at *
  generalize canon b = y at *
  by_cases e : x = y
  · subst e; simp
  · rw [if_neg e]
    by_cases p : 9223372036854775808 ≤ x <;> by_cases q : 9223372036854775808 ≤ y
    · simp only [p, q, if_pos, and_self, decide_eq_true_eq]
      split <;> split <;> omega
    · simp only [p, q, if_pos, if_neg, and_false, not_false_eq_true, or_false, decide_true]
      split <;> omega
    · simp only [p, q, if_pos, if_neg, false_and, not_false_eq_true, or_true, decide_false]
      split
      · omega
      split
      · rfl
      · omega
    · simp only [p, q, if_neg, and_self, not_false_eq_true, or_self, decide_eq_true_eq]
      split <;> split <;> omega
theorem rCompare_any (a b : Nat) (ha : a < 2 ^ 64) (hb : b < 2 ^ 64) (w : World) : Calls Try.prog 23 #[.int .u64 a, .int .u64 b] w fun e w' => e = .returned (.int .i64 (cmpI a b)) ∧ w = w' := by
  have o := fun w => rCanon_any a ha w
  have o' := fun w => rCanon_any b hb w
  have h1 := Lib.hid (canon_lt ha)
  have h2 := Lib.hid (canon_lt hb)
  rw [cmpI_ref ha hb]
  generalize canon a = x at *
  generalize canon b = y at *
  clear ha hb
  by_cases e : x = y
  · subst e
    rw [if_pos rfl]
    go_enter Try.func23, Try.ntmps23
    go_wp2_with fail
    refine (o _).mono ?_
    rintro e w' ⟨rfl, rfl⟩
    go_wp2_with fail
    refine (o' _).mono ?_
    rintro e w' ⟨rfl, rfl⟩
    go_wp2_with fail
    go_ret
    exact ⟨rfl, rfl⟩
  · rw [if_neg e]
    have e' : ((x : Int) == y) = false := by rw [beq_eq_false_iff_ne]; omega
    clear e
    have g : ∀ z : Nat, z < 2 ^ 64 → ((z : Int) / 9223372036854775808 = 1 ∧ 9223372036854775808 ≤ z) ∨ ((z : Int) / 9223372036854775808 = 0 ∧ ¬ 9223372036854775808 ≤ z) := fun z hz => by omega
    rcases g x h1.out with ⟨p, p'⟩ | ⟨p, p'⟩ <;> rcases g y h2.out with ⟨q, q'⟩ | ⟨q, q'⟩
    all_goals
      have P' := Lib.hid p'
      have Q' := Lib.hid q'
      clear p' q' g
      go_enter Try.func23, Try.ntmps23
      go_wp2_with fail
      refine (o _).mono ?_
      rintro e w' ⟨rfl, rfl⟩
      go_wp2_with fail
      refine (o' _).mono ?_
      rintro e w' ⟨rfl, rfl⟩
      go_wp2_with fail
      all_goals
        go_ret
        refine ⟨ret_int ?_, rfl⟩
        have := P'.out
        have := Q'.out
        simp_all
end Go.Proofs.Ythhlgdjpopdboaa
