/- The walks of package real. -/
import Derived.Test.YthhlgdjpopdboaaRows
import Derived.Test.YthhlgdjpopdboaaFloatSum
import Derived.WalkKit
import Derived.WalkSpells
import Derived.Laws.ShiftsVarLaws
import Derived.Laws.Bits64b
import Derived.WalkLawsBesides
import Derived.Below
import Derived.BigQuiet
import Derived.Outline
import Derived.Deep.DeepCutAuto
import Derived.Lib.Hide
namespace Go.Proofs.Ythhlgdjpopdboaa
open Go.RowKit FloatPlain Ieee

theorem ret_int {k : IntKind} {a b : Int} (h : a = b) : Ending.returned (.int k a) = .returned (.int k b) := by rw [h]
/-- the NaN that the tape gives -/
def nb (w : World) (x y : Nat) : Nat := (Question.nanBits .f64 x y).cut (w.tape w.drawn (.nanBits .f64 x y))
theorem nan_cut (s r : Nat) (hs : s < 2) (hr : r < 4503599627370495) :
    inf < rung (s * 2 ^ 63 + 0x7ff0000000000000 + 1 + r) ∧ s * 2 ^ 63 + 0x7ff0000000000000 + 1 + r < 2 ^ 64 := by
  unfold rung inf
  rcases (show s = 0 ∨ s = 1 by omega) with rfl | rfl <;> omega
theorem nb_nan (w : World) (x y : Nat) : inf < rung (nb w x y) ∧ nb w x y < 2 ^ 64 := by
  unfold nb Question.cut
  exact nan_cut _ _ (Nat.mod_lt _ (by decide)) (Nat.mod_lt _ (by decide))
theorem run_float_nan {P : Program} (w : World) (op : BinOp) (t : TypeId) (x y : Nat) (hop : op = .add ∨ op = .sub) (h : floatBits op .f64 x y = none) :
    (binOp op t (.float .f64 x) (.float .f64 y)).run P w = .ok (.float .f64 (nb w x y)) w.drew := by
  unfold floatBits at h
  rcases hop with rfl | rfl
  all_goals
    simp only at h
    simp [binOp, Op.floatArith, h, Question.forced]
    rfl

theorem num_self {a : Nat} (h : rung a ≤ inf) : (double.order a a != some .eq) = false := by
  have := self_eq a
  unfold isNaN at this
  unfold bne
  rw [this]
  simp
  exact h
theorem run_frombits (n : Int) (w : World) : (callFunc 36 #[.int .u64 n]).run Try.prog w = .ok (.value (.float .f64 n.toNat)) w := by
  rw [run_callFunc_extern (fn := Try.f36) (e := Extern.MathFloatBits.float64frombits) Try.func36 (by kernel_rfl) (by kernel_rfl) (by kernel_rfl) (by kernel_rfl)]; rfl
theorem run_bits (n : Nat) (w : World) : (callFunc 35 #[.float .f64 n]).run Try.prog w = .ok (.value (.int .u64 n)) w := by
  rw [run_callFunc_extern (fn := Try.f35) (e := Extern.MathFloatBits.float64bits) Try.func35 (by kernel_rfl) (by kernel_rfl) (by kernel_rfl) (by kernel_rfl)]; rfl
theorem run_trunc (n : Nat) (w : World) (h : rung n < inf) (hT : T n < 2 ^ 64) : (callFunc 37 #[.float .f64 n]).run Try.prog w = .ok (.value (.float .f64 (word (sgn n) (wholeR (T n))))) w := by
  rw [run_callFunc_extern (fn := Try.f37) (e := Extern.MathFloor.toIntegral "math.archTrunc" .zero) Try.func37 (by kernel_rfl) (by kernel_rfl) (by kernel_rfl) (by kernel_rfl)]
  have e1 := integral_num h
  have e2 := write_T (w := n) hT
  have e3 := read_num h
  have e : ∀ d : Datum, d = .number (sgn n) (mag (rung n)) (-1074 + (up (rung n) : Int)) → (double.read n = d) → Extern.MathFloor.toIntegral "math.archTrunc" .zero #[.float .f64 n] = pure (.float .f64 (double.write (d.integral .zero))) := by
    intro d hd hr
    subst hd
    unfold Extern.MathFloor.toIntegral
    show (match double.read n with | .nan s t => _ | d => _) = _
    rw [hr]
    rfl
  rw [e _ e3 rfl, e1, e2]
  rfl
theorem of_any (a : Nat) (w : World) : Calls Try.prog 30 #[.int .u64 a] w fun e w' => e = .returned (.float .f64 a) ∧ w = w' := by
  have f := fun w => run_frombits a w
  go_enter Try.func30, Try.ntmps30
  go_wp2
  go_ret
  exact ⟨rfl, rfl⟩
theorem canon_any (a : Nat) (w : World) : Calls Try.prog 17 #[.int .u64 a] w fun e w' => e = .returned (.int .u64 (canon a : Nat)) ∧ w = w' := by
  have o := fun w => of_any a w
  by_cases h : inf < rung a
  · have h1 : (FloatKind.f64.format.order a a != some .eq) = true := nan_ne _ h
    have e : canon a = 9221120237041090560 := canon_nan.2 h
    rw [e]
    go_enter Try.func17, Try.ntmps17
    go_wp2_with (go_at_call 30; refine (o _).mono ?_; rintro e w' ⟨rfl, rfl⟩)
    go_ret
    exact ⟨rfl, rfl⟩
  · have h1 : (FloatKind.f64.format.order a a != some .eq) = false := num_self (by omega)
    rw [canon_of (by omega)]
    go_enter Try.func17, Try.ntmps17
    go_wp2_with (go_at_call 30; refine (o _).mono ?_; rintro e w' ⟨rfl, rfl⟩)
    go_ret
    exact ⟨rfl, rfl⟩
/-- a word's kind -/
def kindI (w : Nat) : Int := if inf < rung w then 0 else if rung w = inf then 1 else if 2 ^ 52 ≤ rung w then 2 else if rung w = 0 then 4 else 3
theorem and_sign (w : Nat) (hw : w < 2 ^ 64) : bits .and .u64 (w : Int) 9223372036854775808 = if sgn w then 9223372036854775808 else 0 := by
  have := bits_and_u64_nat w 9223372036854775808 hw (by decide)
  rw [show ((9223372036854775808 : Nat) : Int) = 9223372036854775808 from rfl] at this
  rw [this]
  have h : w &&& 9223372036854775808 = if sgn w then 9223372036854775808 else 0 := by
    unfold sgn
    have e := and_bit_var 64 w 63 (by decide)
    have e2 : ((2 : Int) ^ min (63 : Int).toNat 64 % 2 ^ 64).toNat = 9223372036854775808 := by decide
    have e3 : (63 : Int).toNat = 63 := rfl
    rw [e2, if_neg (by decide), e3] at e
    rw [e]
    by_cases h : w / 2 ^ 63 % 2 = 1
    · simp [h]
    · have : w / 2 ^ 63 % 2 = 0 := by omega
      simp [this]
  rw [h]; split <;> rfl
theorem kind_any (a : Nat) (ha : a < 2 ^ 64) (w : World) : Calls Try.prog 13 #[.int .u64 a] w fun e w' => e = .returned (.tuple #[.int .u8 (kindI a), .bool (sgn a)]) ∧ ∃ n, w' = w.drewN n := by
  have o := fun w => of_any a w
  have hs := and_sign a ha
  by_cases h : inf < rung a
  · have h1 : (FloatKind.f64.format.order a a != some .eq) = true := nan_ne _ h
    have e : kindI a = 0 := if_pos h
    rw [e]
    clear e h
    cases hg : sgn a <;> rw [hg] at hs
    all_goals
      clear hg
      go_enter Try.func13, Try.ntmps13
      go_wp2_with (go_at_call 30; refine (o _).mono ?_; rintro e w' ⟨rfl, rfl⟩)
      go_ret2
      exact ⟨rfl, 0, rfl⟩
  · have h1 : (FloatKind.f64.format.order a a != some .eq) = false := num_self (by omega)
    by_cases hi : rung a = inf
    · have e : kindI a = 1 := by unfold kindI; rw [if_neg h, if_pos hi]
      rw [e]
      have h2 : ∀ w : World, (binOp .sub 44 (.float .f64 a) (.float .f64 a)).run Try.prog w = .ok (.float .f64 (nb w a a)) w.drew := fun w => run_float_nan w .sub 44 a a (.inr rfl) (sub_self_inf hi)
      have h3 : ∀ w : World, (FloatKind.f64.format.order (nb w a a) 0 != some .eq) = true := fun w => nan_ne _ (nb_nan w a a).1
      clear e h hi
      cases hg : sgn a <;> rw [hg] at hs
      all_goals
        clear hg
        go_enter Try.func13, Try.ntmps13
        go_wp2_with (go_at_call 30; refine (o _).mono ?_; rintro e w' ⟨rfl, rfl⟩)
        go_ret2
        exact ⟨rfl, 1, rfl⟩
    · have hf : rung a < inf := by omega
      have h2 : ∀ w : World, (binOp .sub 44 (.float .f64 a) (.float .f64 a)).run Try.prog w = .ok (.float .f64 0) w := fun w => run_float_arith w .sub 44 .f64 a a 0 (sub_self_num hf)
      have h3 : (FloatKind.f64.format.order 0 0 != some .eq) = false := by decide
      have h4 : (FloatKind.f64.format.order a 0 == some .eq) = decide (rung a = 0) := eq_zero ha (by omega)
      have h5 : ((FloatKind.f64.format.order a 9227875636482146304 == some .gt) && (FloatKind.f64.format.order a 4503599627370496 == some .lt)) = decide (rung a < 2 ^ 52) := gt_lo hf
      by_cases h0 : rung a = 0
      · have e : kindI a = 4 := by unfold kindI; rw [if_neg h, if_neg hi, if_neg (by omega), if_pos h0]
        rw [e]
        rw [decide_eq_true h0] at h4
        clear e h hi h5 hf h0
        cases hg : sgn a <;> rw [hg] at hs
        all_goals
          clear hg
          go_enter Try.func13, Try.ntmps13
          go_wp2_with (go_at_call 30; refine (o _).mono ?_; rintro e w' ⟨rfl, rfl⟩)
          go_ret2
          exact ⟨rfl, 0, rfl⟩
      · rw [decide_eq_false h0] at h4
        by_cases h52 : rung a < 2 ^ 52
        · have e : kindI a = 3 := by unfold kindI; rw [if_neg h, if_neg hi, if_neg (by omega), if_neg h0]
          rw [e]
          rw [decide_eq_true h52, Bool.and_eq_true] at h5
          obtain ⟨h6, h7⟩ := h5
          clear e h hi hf h0 h52
          cases hg : sgn a <;> rw [hg] at hs
          all_goals
            clear hg
            go_enter Try.func13, Try.ntmps13
            go_wp2_with (go_at_call 30; refine (o _).mono ?_; rintro e w' ⟨rfl, rfl⟩)
            go_ret2
            exact ⟨rfl, 0, rfl⟩
        · have e : kindI a = 2 := by unfold kindI; rw [if_neg h, if_neg hi, if_pos (by omega)]
          rw [e]
          rw [decide_eq_false h52, Bool.and_eq_false_iff] at h5
          clear e h hi hf h0 h52
          cases hg : sgn a <;> rw [hg] at hs
          all_goals
            clear hg
            rcases h5 with h6 | h6
            · go_enter Try.func13, Try.ntmps13
              go_wp2_with (go_at_call 30; refine (o _).mono ?_; rintro e w' ⟨rfl, rfl⟩)
              go_ret2
              exact ⟨rfl, 0, rfl⟩
            · cases h7 : (FloatKind.f64.format.order a 9227875636482146304 == some .gt)
              all_goals
                go_enter Try.func13, Try.ntmps13
                go_wp2_with (go_at_call 30; refine (o _).mono ?_; rintro e w' ⟨rfl, rfl⟩)
                go_ret2
                exact ⟨rfl, 0, rfl⟩
end Go.Proofs.Ythhlgdjpopdboaa
