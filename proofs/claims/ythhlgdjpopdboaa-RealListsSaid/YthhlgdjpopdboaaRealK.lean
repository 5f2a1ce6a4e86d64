/- The walks of the statements on floats: kinds, pairs, numbers, turns, rises. -/
import Derived.Test.YthhlgdjpopdboaaRealI
namespace Go.Proofs.Ythhlgdjpopdboaa
open Go.RowKit FloatPlain Ieee

theorem kinds_walk (w : World) (a : Nat) (ha : a < 2 ^ 64) : Calls Try.prog 3 #[.int .u64 a] w fun e w' => e = .returned (.bool true) ∧ Below w.heap.size w w' := by
  have k1 := fun w => kind_any a ha w
  have k2 := fun w => rKind_any a ha w
  have w1 := fun w => whole_any a ha w
  have w2 := fun w => rWhole_any a ha w
  have c1 := fun w => canon_any a w
  have c2 := fun w => rCanon_any a ha w
  have aw := fun w => awake_any w
  generalize kindI a = x1 at *
  generalize sgn a = x2 at *
  generalize wholeN a = x3 at *
  generalize wholeB a = x4 at *
  generalize canon a = x5 at *
  clear ha
  go_enter Try.func3, Try.ntmps3
  go_wp2_with fail
  refine (k1 _).mono ?_
  rintro e w1' ⟨rfl, n1, rfl⟩
  go_wp2_with fail
  refine (k2 _).mono ?_
  rintro e w' ⟨rfl, rfl⟩
  go_wp2_with fail
  refine (w1 _).mono ?_
  rintro e w' ⟨rfl, rfl⟩
  go_wp2_with fail
  refine (w2 _).mono ?_
  rintro e w' ⟨rfl, rfl⟩
  go_wp2_with fail
  refine (c1 _).mono ?_
  rintro e w' ⟨rfl, rfl⟩
  go_wp2_with fail
  refine (c2 _).mono ?_
  rintro e w' ⟨rfl, rfl⟩
  go_wp2_with fail
  refine (aw _).mono ?_
  rintro e w4 ⟨rfl, b4⟩
  have B4 := Lib.hid (unN b4)
  clear b4
  go_wp2_with fail
  go_ret
  exact ⟨rfl, B4.out⟩
theorem pairs_walk (w : World) (a b : Nat) (ha : a < 2 ^ 64) (hb : b < 2 ^ 64) : Calls Try.prog 4 #[.int .u64 a, .int .u64 b] w fun e w' => e = .returned (.bool true) ∧ Below w.heap.size w w' := by
  have k1 := fun w => equal_any a b ha hb w
  have k2 := fun w => rEqual_any a b ha hb w
  have w1 := fun w => compare_any a b ha hb w
  have w2 := fun w => rCompare_any a b ha hb w
  have aw := fun w => awake_any w
  generalize eqB a b = x1 at *
  generalize cmpI a b = x2 at *
  clear ha hb
  go_enter Try.func4, Try.ntmps4
  go_wp2_with fail
  refine (k1 _).mono ?_
  rintro e w' ⟨rfl, rfl⟩
  go_wp2_with fail
  refine (k2 _).mono ?_
  rintro e w' ⟨rfl, rfl⟩
  go_wp2_with fail
  refine (w1 _).mono ?_
  rintro e w' ⟨rfl, rfl⟩
  go_wp2_with fail
  refine (w2 _).mono ?_
  rintro e w' ⟨rfl, rfl⟩
  go_wp2_with fail
  refine (aw _).mono ?_
  rintro e w4 ⟨rfl, b4⟩
  have B4 := Lib.hid b4
  clear b4
  go_wp2_with fail
  go_ret
  exact ⟨rfl, B4.out⟩
theorem numbers_walk (w : World) (n : Int) (h0 : -9223372036854775808 ≤ n) (h1 : n ≤ 9223372036854775807) : Calls Try.prog 5 #[.int .i64 n] w fun e w' => e = .returned (.bool true) ∧ Below w.heap.size w w' := by
  have hl := ofW_lt (n := n) (by omega)
  have k1 := fun w => pof_any n h0 h1 w
  have k2 := fun w => rOf_any n h0 h1 w
  have w1 := fun w => whole_any (ofW n) hl w
  have aw := fun w => awake_any w
  have key : (ofB n = false) ∨ (ofB n = true ∧ wholeB (ofW n) = true ∧ wholeN (ofW n) = n) := by
    cases h : ofB n
    · exact .inl rfl
    · right
      unfold ofB at h
      rw [Bool.and_eq_true, decide_eq_true_eq] at h
      exact ⟨rfl, h.1, by rw [wholeN_yes h.1]; exact h.2⟩
  generalize ofB n = x1 at *
  generalize wholeB (ofW n) = x2 at *
  generalize wholeN (ofW n) = x3 at *
  generalize ofW n = x4 at *
  clear hl
  rcases key with rfl | ⟨rfl, rfl, rfl⟩
  all_goals
    clear h0 h1
    go_enter Try.func5, Try.ntmps5
    go_wp2_with fail
    refine (k1 _).mono ?_
    rintro e w' ⟨rfl, rfl⟩
    go_wp2_with fail
    refine (k2 _).mono ?_
    rintro e w' ⟨rfl, rfl⟩
    go_wp2_with fail
    refine (w1 _).mono ?_
    rintro e w' ⟨rfl, rfl⟩
    go_wp2_with fail
    refine (aw _).mono ?_
    rintro e w4 ⟨rfl, b4⟩
    have B4 := Lib.hid b4
    clear b4
    go_wp2_with fail
    go_ret
    exact ⟨rfl, B4.out⟩
theorem lists_walk (w : World) (A : Option Addr) (len cap : Nat) (f : Nat → Nat) (h : Wds w A len f) (hcap : len ≤ cap) : Calls Try.prog 10 #[.slice A len cap] w fun e w' => e = .returned (.bool true) ∧ Below w.heap.size w w' := by
  have aw := fun w => awake_any w
  have hl := h.2.1
  by_cases hg : 200 < len
  · clear h
    go_enter Try.func10, Try.ntmps10
    go_wp2_with fail
    refine (aw _).mono ?_
    rintro e w4 ⟨rfl, b4⟩
    have B4 := Lib.hid b4
    clear b4
    go_wp2_with fail
    go_ret
    exact ⟨rfl, B4.out⟩
  · have k1 := fun n => psum_any (w.drewN n) A len cap f h hcap
    have k2 := fun n => rsum_any (w.drewN n) A len cap f h
    have l1 := fun n => pleast_any (w.drewN n) A len cap f h
    have l2 := fun n => rleast_any (w.drewN n) A len cap f h
    have k0 := psum_any w A len cap f h hcap
    generalize sumW (Lf f len) = x1 at *
    generalize leastN (Lf f len) = x2 at *
    clear h
    go_enter Try.func10, Try.ntmps10
    go_wp2_with fail
    refine k0.mono ?_
    rintro e w1 ⟨rfl, n1, rfl⟩
    go_wp2_with fail
    refine (k2 _).mono ?_
    rintro e w2 ⟨rfl, n2, rfl⟩
    go_wp2_with fail
    refine (l1 _).mono ?_
    rintro e w2 ⟨rfl, rfl⟩
    go_wp2_with fail
    refine (l2 _).mono ?_
    rintro e w2 ⟨rfl, rfl⟩
    go_wp2_with fail
    refine (aw _).mono ?_
    rintro e w4 ⟨rfl, b4⟩
    have B4 := Lib.hid (unN b4)
    clear b4
    go_wp2_with fail
    go_ret
    exact ⟨rfl, B4.out⟩
end Go.Proofs.Ythhlgdjpopdboaa
