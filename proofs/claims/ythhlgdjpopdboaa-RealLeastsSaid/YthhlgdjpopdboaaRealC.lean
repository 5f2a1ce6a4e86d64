/- The walks of package real: whole numbers. -/
import Derived.Test.YthhlgdjpopdboaaRealB
namespace Go.Proofs.Ythhlgdjpopdboaa
open Go.RowKit FloatPlain Ieee

theorem trunc_any (a : Nat) (w : World) (h : rung a < inf) (hT : T a < 2 ^ 64) : Calls Try.prog 31 #[.float .f64 a] w fun e w' => e = .returned (.float .f64 (word (sgn a) (wholeR (T a)))) ∧ w = w' := by
  have t := fun w => run_trunc a w h hT
  generalize word (sgn a) (wholeR (T a)) = r at *
  clear h hT
  go_enter Try.func31, Try.ntmps31
  go_wp2_with fail
  go_ret
  exact ⟨rfl, rfl⟩
/-- what Whole tells -/
def wholeN (a : Nat) : Int := if wholeB a then tInt a else 0
theorem wholeB_range {a : Nat} (h : ((double.order a lo63 == some .gt || double.order a lo63 == some .eq) && (double.order a hi63 == some .lt)) = false) : wholeB a = false := by
  unfold wholeB
  by_cases hf : rung a < inf
  · by_cases h0 : V (rung a) % P = 0
    · rw [range_whole hf h0] at h
      rw [Bool.and_assoc, h]; simp
    · simp [h0]
  · simp [hf]
theorem wholeB_part {a : Nat} (h : ¬ V (rung a) % P = 0) : wholeB a = false := by
  unfold wholeB; simp [h]
theorem range_num {a : Nat} (h : ((double.order a lo63 == some .gt || double.order a lo63 == some .eq) && (double.order a hi63 == some .lt)) = true) : rung a < inf := by
  rcases read_cases a with k | k | k
  · exact k
  · rw [range_inf k] at h; cases h
  · rw [range_nan k] at h; cases h
theorem wholeB_yes {a : Nat} (h : ((double.order a lo63 == some .gt || double.order a lo63 == some .eq) && (double.order a hi63 == some .lt)) = true) (h0 : V (rung a) % P = 0) : wholeB a = true ∧ -9223372036854775808 ≤ tInt a ∧ tInt a < 9223372036854775808 := by
  have hf := range_num h
  rw [range_whole hf h0, Bool.and_eq_true, decide_eq_true_eq, decide_eq_true_eq] at h
  unfold wholeB
  simp [hf, h0, h.1, h.2]
theorem toInt_whole {a : Nat} (h : rung a < inf) (h1 : -9223372036854775808 ≤ tInt a) (h2 : tInt a < 9223372036854775808) : floatToIntVal .f64 a .i64 = some (tInt a) := by
  unfold floatToIntVal
  show (match (double.read a).toInt .zero with | some n => _ | none => _) = _
  rw [toInt_num h]
  show (if IntKind.i64.min ≤ tInt a ∧ tInt a ≤ IntKind.i64.max then some (tInt a) else none) = _
  rw [if_pos]
  exact ⟨h1, by show tInt a ≤ 9223372036854775807; omega⟩
theorem whole_any (a : Nat) (ha : a < 2 ^ 64) (w : World) : Calls Try.prog 15 #[.int .u64 a] w fun e w' => e = .returned (.tuple #[.int .i64 (wholeN a), .bool (wholeB a)]) ∧ w = w' := by
  have o := fun w => of_any a w
  by_cases hr : ((double.order a lo63 == some .gt || double.order a lo63 == some .eq) && (double.order a hi63 == some .lt)) = true
  · have hf := range_num hr
    have hT : T a < 2 ^ 64 := Nat.lt_of_le_of_lt (range_T hf hr) (by decide)
    have t := fun w => trunc_any a w hf hT
    have n := trunc_eq ha hf hT
    have hr' := hr
    rw [Bool.and_eq_true] at hr'
    obtain ⟨r1, r2⟩ := hr'
    have r1 : (FloatKind.f64.format.order a 14114281232179134464 == some .gt || FloatKind.f64.format.order a 14114281232179134464 == some .eq) = true := r1
    have r2 : (FloatKind.f64.format.order a 4890909195324358656 == some .lt) = true := r2
    generalize word (sgn a) (wholeR (T a)) = k at *
    by_cases h0 : V (rung a) % P = 0
    · have n : (FloatKind.f64.format.order a k != some .eq) = false := by
        show (double.order a k != some .eq) = false
        rw [n, decide_eq_true h0]; rfl
      obtain ⟨e1, e2, e3⟩ := wholeB_yes hr h0
      have c := fun w => run_convert_float_int (P := Try.prog) w 44 2 .f64 .i64 a (tInt a) (by rw [Try.underlying44]; rfl) Try.underlying2 (toInt_whole hf e2 e3)
      have e4 : wholeN a = tInt a := by unfold wholeN; rw [if_pos e1]
      rw [e1, e4]
      generalize tInt a = z at *
      clear e1 e2 e3 e4 h0 hr hf hT ha
      go_enter Try.func15, Try.ntmps15
      go_wp2_with (first | (go_at_call 30; refine (o _).mono ?_; rintro e w' ⟨rfl, rfl⟩) | (go_at_call 31; refine (t _).mono ?_; rintro e w' ⟨rfl, rfl⟩))
      go_ret2
      exact ⟨rfl, rfl⟩
    · have n : (FloatKind.f64.format.order a k != some .eq) = true := by
        show (double.order a k != some .eq) = true
        rw [n, decide_eq_false h0]; rfl
      have e1 := wholeB_part h0
      have e4 : wholeN a = 0 := by unfold wholeN; rw [e1]; rfl
      rw [e1, e4]
      clear e1 e4 h0 hr hf hT ha
      go_enter Try.func15, Try.ntmps15
      go_wp2_with (first | (go_at_call 30; refine (o _).mono ?_; rintro e w' ⟨rfl, rfl⟩) | (go_at_call 31; refine (t _).mono ?_; rintro e w' ⟨rfl, rfl⟩))
      go_ret2
      exact ⟨rfl, rfl⟩
  · have e1 := wholeB_range (by simpa using hr)
    have e4 : wholeN a = 0 := by unfold wholeN; rw [e1]; rfl
    rw [e1, e4]
    have hr : ((FloatKind.f64.format.order a 14114281232179134464 == some .gt || FloatKind.f64.format.order a 14114281232179134464 == some .eq) && (FloatKind.f64.format.order a 4890909195324358656 == some .lt)) = false := by
      have := eq_false_of_ne_true hr
      exact this
    clear e1 e4 ha
    by_cases r1 : (FloatKind.f64.format.order a 14114281232179134464 == some .gt || FloatKind.f64.format.order a 14114281232179134464 == some .eq) = true
    · rw [r1, Bool.true_and] at hr
      go_enter Try.func15, Try.ntmps15
      go_wp2_with (go_at_call 30; refine (o _).mono ?_; rintro e w' ⟨rfl, rfl⟩)
      go_ret2
      exact ⟨rfl, rfl⟩
    · have r1 := eq_false_of_ne_true r1
      clear hr
      go_enter Try.func15, Try.ntmps15
      go_wp2_with (go_at_call 30; refine (o _).mono ?_; rintro e w' ⟨rfl, rfl⟩)
      go_ret2
      exact ⟨rfl, rfl⟩

/-- what Of tells -/
def ofB (n : Int) : Bool := wholeB (ofW n) && decide (tInt (ofW n) = n)
theorem pof_any (n : Int) (h0 : -9223372036854775808 ≤ n) (h1 : n ≤ 9223372036854775807) (w : World) : Calls Try.prog 24 #[.int .i64 n] w fun e w' => e = .returned (.tuple #[.int .u64 (ofW n : Nat), .bool (ofB n)]) ∧ w = w' := by
  have hl := ofW_lt (n := n) (by omega)
  have wh := fun w => whole_any (ofW n) hl w
  have c : floatOfInt .f64 n = ofW n := nearest_int (by omega)
  have b := fun m w => run_bits m w
  have E : Hid (ofB n = (wholeB (ofW n) && decide (tInt (ofW n) = n))) := Lib.hid rfl
  generalize ofB n = r at *
  have key : (wholeB (ofW n) = true ∧ wholeN (ofW n) = tInt (ofW n)) ∨ wholeB (ofW n) = false := by
    unfold wholeN; cases wholeB (ofW n) <;> simp
  clear hl h0 h1
  rcases key with ⟨k1, k2⟩ | k1
  · rw [k1, k2] at wh
    rw [k1] at E
    clear k1 k2
    generalize tInt (ofW n) = z at *
    generalize ofW n = x at *
    go_enter Try.func24, Try.ntmps24
    go_wp2_with (go_at_call 15; ((with_reducible refine (wh _).mono ?_); rintro e w' ⟨rfl, rfl⟩))
    go_ret2
    exact ⟨by rw [E.out]; simp [Bool.beq_eq_decide_eq], rfl⟩
  · rw [k1] at wh
    rw [k1] at E
    clear k1
    generalize tInt (ofW n) = z at *
    generalize wholeN (ofW n) = y at *
    generalize ofW n = x at *
    go_enter Try.func24, Try.ntmps24
    go_wp2_with (go_at_call 15; ((with_reducible refine (wh _).mono ?_); rintro e w' ⟨rfl, rfl⟩))
    go_ret2
    exact ⟨by rw [E.out]; simp, rfl⟩
end Go.Proofs.Ythhlgdjpopdboaa
