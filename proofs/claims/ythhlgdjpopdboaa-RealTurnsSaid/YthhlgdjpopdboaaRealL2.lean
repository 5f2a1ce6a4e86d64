/- The walks of the statements on floats: signs turned, greater numbers. -/
import Derived.Test.YthhlgdjpopdboaaRealI
namespace Go.Proofs.Ythhlgdjpopdboaa
open Go.RowKit FloatPlain Ieee

theorem xor63 (r : Nat) (h : r < 2 ^ 63) : r ^^^ 2 ^ 63 = 2 ^ 63 + r := by
  refine Nat.eq_of_testBit_eq fun i => ?_
  rw [Nat.testBit_xor]
  rcases Nat.lt_trichotomy i 63 with hi | hi | hi
  · rw [Nat.testBit_two_pow_add_gt hi, Nat.testBit_two_pow_of_ne (by omega)]; simp
  · subst hi
    rw [Nat.testBit_two_pow_add_eq, Nat.testBit_two_pow_self]; simp
  · have h1 : (2 : Nat) ^ 64 ≤ 2 ^ i := Nat.pow_le_pow_right (by omega) (by omega)
    rw [Nat.testBit_lt_two_pow (by omega), Nat.testBit_lt_two_pow (x := 2 ^ 63) (by omega), Nat.testBit_lt_two_pow (by omega)]; rfl
theorem xor_turn (a : Nat) (ha : a < 2 ^ 64) : bits .xor .u64 (a : Int) 9223372036854775808 = ((turn a : Nat) : Int) := by
  have := bits_xor_u64_nat a 9223372036854775808 ha (by decide)
  rw [show ((9223372036854775808 : Nat) : Int) = 9223372036854775808 from rfl] at this
  rw [this]
  congr 1
  unfold turn
  by_cases h : 9223372036854775808 ≤ a
  · rw [if_pos h]
    obtain ⟨r, hr, rfl⟩ : ∃ r, r < 2 ^ 63 ∧ a = 2 ^ 63 + r := ⟨a - 2 ^ 63, by omega, by omega⟩
    rw [← xor63 r hr, show (9223372036854775808 : Nat) = 2 ^ 63 from rfl, Nat.xor_assoc, Nat.xor_self, Nat.xor_zero, xor63 r hr]; omega
  · rw [if_neg h, show (9223372036854775808 : Nat) = 2 ^ 63 from rfl, xor63 a (by omega)]; omega
theorem turns_walk (w : World) (a b : Nat) (ha : a < 2 ^ 64) (hb : b < 2 ^ 64) : Calls Try.prog 7 #[.int .u64 a, .int .u64 b] w fun e w' => e = .returned (.bool true) ∧ Below w.heap.size w w' := by
  have k1 := fun w => rKind_any a ha w
  have k2 := fun w => rKind_any b hb w
  have aw := fun w => awake_any w
  by_cases hn : kindI a = 0 ∨ kindI b = 0
  · have hs := sum_two_nan (a := a) (b := b) (by rw [kind_nan, kind_nan] at hn; exact hn)
    have s := sum_new w [a, b] (by simp [ha, hb]) (by simp) #[.int .u64 a, .int .u64 b] 22 rfl 2 rfl 9221120237041090560 (by rw [hs]; rfl)
    have c := fun w => canon_any 9221120237041090560 w
    rw [show canon 9221120237041090560 = 9221120237041090560 by decide] at c
    have c : ∀ w, Calls Try.prog 17 #[.int .u64 9221120237041090560] w fun e w' => e = .returned (.int .u64 9221120237041090560) ∧ w = w' := c
    have hn' : kindI a = 0 ∨ ((kindI a == 0) = false ∧ kindI b = 0) := by
      by_cases h : kindI a = 0
      · exact .inl h
      · exact .inr ⟨by rw [beq_eq_false_iff_ne]; exact h, hn.resolve_left h⟩
    clear hs ha hb hn
    generalize kindI a = k at *
    generalize kindI b = j at *
    rcases hn' with rfl | ⟨hk, rfl⟩
    all_goals
      go_enter Try.func7, Try.ntmps7
      go_wp2_with fail
      refine (k1 _).mono ?_
      rintro e w' ⟨rfl, rfl⟩
      go_wp2_with fail
      refine (k2 _).mono ?_
      rintro e w' ⟨rfl, rfl⟩
      go_wp2_with fail
      refine s.mono ?_
      rintro e w3 ⟨rfl, b3⟩
      have B3 := Lib.hid b3
      clear b3
      go_wp2_with fail
      refine (c _).mono ?_
      rintro e w' ⟨rfl, rfl⟩
      go_wp2_with fail
      refine (aw _).mono ?_
      rintro e w4 ⟨rfl, b4⟩
      have B4 := Lib.hid (B3.out.trans (b4.mono B3.out.size))
      clear b4
      go_wp2_with fail
      go_ret
      exact ⟨rfl, B4.out⟩
  · have h1 : ¬ kindI a = 0 := fun h => hn (.inl h)
    have h2 : ¬ kindI b = 0 := fun h => hn (.inr h)
    have g1 : (kindI a == 0) = false := by rw [beq_eq_false_iff_ne]; exact h1
    have g2 : (kindI b == 0) = false := by rw [beq_eq_false_iff_ne]; exact h2
    have ta := turn_lt ha
    have tb := turn_lt hb
    have r1 := fun w => compare_any (turn a) (turn b) ta tb w
    have r2 := fun w => compare_any b a hb ha w
    have q1 := fun w => equal_any (turn a) (turn b) ta tb w
    have q2 := fun w => equal_any a b ha hb w
    have x1 := xor_turn a ha
    have x2 := xor_turn b hb
    rw [kind_nan] at h1 h2
    rw [cmpI_turn ha hb (by omega) (by omega)] at r1
    rw [eqB_turn ha hb] at q1
    generalize kindI a = k at *
    generalize kindI b = j at *
    generalize turn a = a' at *
    generalize turn b = b' at *
    generalize cmpI b a = c at *
    generalize eqB a b = e at *
    clear ha hb hn h1 h2 ta tb
    go_enter Try.func7, Try.ntmps7
    go_wp2_with fail
    refine (k1 _).mono ?_
    rintro e w' ⟨rfl, rfl⟩
    go_wp2_with fail
    refine (k2 _).mono ?_
    rintro e w' ⟨rfl, rfl⟩
    go_wp2_with fail
    refine (r1 _).mono ?_
    rintro e w' ⟨rfl, rfl⟩
    go_wp2_with fail
    refine (r2 _).mono ?_
    rintro e w' ⟨rfl, rfl⟩
    go_wp2_with fail
    refine (q1 _).mono ?_
    rintro e w' ⟨rfl, rfl⟩
    go_wp2_with fail
    refine (q2 _).mono ?_
    rintro e w' ⟨rfl, rfl⟩
    go_wp2_with fail
    refine (aw _).mono ?_
    rintro e w4 ⟨rfl, b4⟩
    go_wp2_with fail
    go_ret
    exact ⟨rfl, b4⟩

theorem key_ofW {n : Int} (h : n.natAbs < 2 ^ 64) : (key (ofW n) : Int) = if n < 0 then 9223372036854775807 - (wholeR n.natAbs : Int) else 9223372036854775808 + (wholeR n.natAbs : Int) := by
  have hl := wholeR_le h
  have hr := rung_ofW h
  unfold key
  rw [canon_of (by omega)]
  unfold ofW word
  unfold inf at hl
  by_cases hn : n < 0
  · simp only [hn, decide_true, if_true]; rw [if_pos (by omega)]; omega
  · simp only [hn, decide_false, if_false]; simp only [Bool.false_eq_true, if_false]; rw [if_neg (by omega)]; omega
theorem ofW_rises {n m : Int} (hn : n.natAbs < 2 ^ 64) (hm : m.natAbs < 2 ^ 64) (h : n ≤ m) : cmpI (ofW n) (ofW m) ≤ 0 := by
  rw [cmpI_le]
  have e1 := key_ofW hn
  have e2 := key_ofW hm
  by_cases h1 : n < 0
  · rw [if_pos h1] at e1
    by_cases h2 : m < 0
    · rw [if_pos h2] at e2
      have := wholeR_mono (M := m.natAbs) (N := n.natAbs) (by omega)
      omega
    · rw [if_neg h2] at e2; omega
  · rw [if_neg h1] at e1
    rw [if_neg (by omega)] at e2
    have := wholeR_mono (M := n.natAbs) (N := m.natAbs) (by omega)
    omega
theorem rises_walk (w : World) (n m : Int) (c : Nat) (n0 : -9223372036854775808 ≤ n) (n1 : n ≤ 9223372036854775807) (m0 : -9223372036854775808 ≤ m) (m1 : m ≤ 9223372036854775807) (hc : c < 2 ^ 64) :
    Calls Try.prog 8 #[.int .i64 n, .int .i64 m, .int .u64 c] w fun e w' => e = .returned (.bool true) ∧ Below w.heap.size w w' := by
  obtain ⟨lo, hi, hlo, hhi, hlh⟩ : ∃ lo hi : Int, (if m < n then m else n) = lo ∧ (if n < m then m else n) = hi ∧ lo ≤ hi ∧ -9223372036854775808 ≤ lo ∧ hi ≤ 9223372036854775807 := by
    by_cases h : m < n
    · exact ⟨m, n, if_pos h, if_neg (by omega), by omega, by omega, by omega⟩
    · by_cases h' : n < m
      · exact ⟨n, m, if_neg h, if_pos h', by omega, by omega, by omega⟩
      · exact ⟨n, n, if_neg h, if_neg h', by omega, by omega, by omega⟩
  obtain ⟨hl, l0, l1⟩ := hlh
  have o1 := fun w => pof_any lo l0 (by omega) w
  have o2 := fun w => pof_any hi (by omega) l1 w
  have aw := fun w => awake_any w
  have cm := fun w => compare_any (ofW lo) (ofW hi) (ofW_lt (by omega)) (ofW_lt (by omega)) w
  have cl := ofW_rises (n := lo) (m := hi) (by omega) (by omega) hl
  have ca := fun w => canon_any c w
  have hs := sum_zero hc
  have s := sum_new w [c, 0] (by simp [hc]) (by simp) #[.int .u64 c, .int .u64 0] 22 rfl 2 rfl _ rfl
  have key : (c = 9223372036854775808 ∧ sumW [c, 0] = 0) ∨ (¬ (c : Int) = 9223372036854775808 ∧ sumW [c, 0] = canon c) := by
    by_cases h : c = 9223372036854775808
    · left; refine ⟨h, ?_⟩; rw [hs, if_neg (by rw [h]; decide), if_pos h]
    · right
      refine ⟨by omega, ?_⟩
      rw [hs]; unfold canon
      by_cases h' : inf < rung c
      · rw [if_pos h', if_pos h']
      · rw [if_neg h', if_neg h', if_neg h]
  have S := Lib.hid hs
  generalize sumW [c, 0] = sv at *
  generalize cmpI (ofW lo) (ofW hi) = cc at *
  generalize ofW lo = wl at *
  generalize ofW hi = wh at *
  generalize ofB lo = bl at *
  generalize ofB hi = bh at *
  clear hl l0 l1 hc hs n0 n1 m0 m1
  have key : (c = 9223372036854775808 ∧ sv = 0) ∨ (¬ (c : Int) = 9223372036854775808 ∧ ((c : Int) == 9223372036854775808) = false ∧ ((c : Int) != 9223372036854775808) = true ∧ sv = canon c) := by
    rcases key with h | ⟨h, h'⟩
    · exact .inl h
    · exact .inr ⟨h, by rw [beq_eq_false_iff_ne]; exact h, by rw [bne_iff_ne]; exact h, h'⟩
  rcases key with ⟨rfl, rfl⟩ | ⟨hk, hk1, hk2, rfl⟩
  all_goals
    clear S
    go_enter Try.func8, Try.ntmps8
    go_wp2_with fail
    refine (o1 _).mono ?_
    rintro e w' ⟨rfl, rfl⟩
    go_wp2_with fail
    refine (o2 _).mono ?_
    rintro e w' ⟨rfl, rfl⟩
    go_wp2_with fail
    refine s.mono ?_
    rintro e w3 ⟨rfl, b3⟩
    have B3 := Lib.hid b3
    clear b3
    go_wp2_with fail
    refine (cm _).mono ?_
    rintro e w' ⟨rfl, rfl⟩
    go_wp2_with (go_at_call 17; refine (ca _).mono ?_; rintro e w' ⟨rfl, rfl⟩)
    refine (aw _).mono ?_
    rintro e w4 ⟨rfl, b4⟩
    have B4 := Lib.hid (B3.out.trans (b4.mono B3.out.size))
    clear b4
    go_wp2_with fail
    go_ret
    exact ⟨rfl, B4.out⟩
end Go.Proofs.Ythhlgdjpopdboaa
