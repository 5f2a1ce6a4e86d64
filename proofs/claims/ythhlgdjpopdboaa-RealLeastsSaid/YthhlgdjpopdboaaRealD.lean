/- The walks of the reference of package real: whole numbers. -/
import Derived.Test.YthhlgdjpopdboaaRealC
import Derived.IntWalk
namespace Go.Proofs.Ythhlgdjpopdboaa
open Go.RowKit FloatPlain Ieee

set_option maxRecDepth 100000 in
theorem rWhole_mid (a : Nat) (s : Nat) (m D T : Int) (neg : Bool) (N : Int) (is : Bool) (o : ∀ w : World, Calls Try.prog 14 #[.int .u64 a] w fun e w' => e = .returned (.tuple #[.int .u8 2, .bool neg]) ∧ w = w')
    (E : Nat) (hE : (a : Int) / 4503599627370496 % 2048 = E) (hE2 : (E : Int) = 1075 - s) (hm : (a : Int) % 4503599627370496 + 4503599627370496 = m) (hs1 : s ≤ 52) (hD : (2 : Int) ^ s = D) (hD0 : 0 < D) (hW : IntKind.u64.wrap D = D)
    (hT : m / D = T) (hT0 : 0 ≤ T) (hT1 : T < 9007199254740992)
    (hno : ¬ m % D = 0 → N = 0 ∧ is = false) (hyes : m % D = 0 → N = (if neg then -T else T) ∧ is = true) (w : World) :
    Calls Try.prog 16 #[.int .u64 a] w fun e w' => e = .returned (.tuple #[.int .i64 N, .bool is]) ∧ w = w' := by
  have q1 : 52 - (1075 - s - 1023) = s := by omega
  by_cases h0 : m % D = 0
  · obtain ⟨rfl, rfl⟩ := hyes h0
    have hz : (m % D != 0) = false := by rw [h0]; rfl
    clear hno hyes h0
    cases neg
    all_goals
      go_enter Try.func16, Try.ntmps16
      go_wp2_with fail
      refine (o _).mono ?_
      rintro e w' ⟨rfl, rfl⟩
      go_wp2_with fail
      go_ret2
      exact ⟨rfl, rfl⟩
  · obtain ⟨rfl, rfl⟩ := hno h0
    have h0 : (m % D == 0) = false := by rw [beq_eq_false_iff_ne]; exact h0
    clear hno hyes hT hT1
    go_enter Try.func16, Try.ntmps16
    go_wp2_with fail
    refine (o _).mono ?_
    rintro e w' ⟨rfl, rfl⟩
    go_upto_region 7 with fail
    go_wp2_with fail
    go_ret2
    exact ⟨rfl, rfl⟩
set_option maxRecDepth 100000 in
theorem rWhole_up (a : Nat) (s : Nat) (m M : Int) (neg : Bool) (N : Int) (is : Bool) (o : ∀ w : World, Calls Try.prog 14 #[.int .u64 a] w fun e w' => e = .returned (.tuple #[.int .u8 2, .bool neg]) ∧ w = w')
    (E : Nat) (hE : (a : Int) / 4503599627370496 % 2048 = E) (hE2 : (E : Int) = 1075 + s) (hm : (a : Int) % 4503599627370496 + 4503599627370496 = m) (hs0 : 1 ≤ s) (hs1 : s ≤ 11) (hM : IntKind.u64.wrap (m * 2 ^ s) = M) (hM0 : 0 ≤ M)
    (hlo : M < 9223372036854775808 → N = (if neg then -M else M) ∧ is = true) (hmid : M = 9223372036854775808 → N = (if neg then -9223372036854775808 else 0) ∧ is = neg) (hhi : 9223372036854775808 < M → N = 0 ∧ is = false) (w : World) :
    Calls Try.prog 16 #[.int .u64 a] w fun e w' => e = .returned (.tuple #[.int .i64 N, .bool is]) ∧ w = w' := by
  have q1 : 1075 + s - 1023 - 52 = s := by omega
  rcases (show M < 9223372036854775808 ∨ M = 9223372036854775808 ∨ 9223372036854775808 < M by omega) with h0 | h0 | h0
  · obtain ⟨rfl, rfl⟩ := hlo h0
    clear hlo hmid hhi
    cases neg
    all_goals
      go_enter Try.func16, Try.ntmps16
      go_wp2_with fail
      refine (o _).mono ?_
      rintro e w' ⟨rfl, rfl⟩
      go_wp2_with fail
      go_ret2
      exact ⟨rfl, rfl⟩
  · obtain ⟨rfl, rfl⟩ := hmid h0
    clear hlo hmid hhi
    subst h0
    cases is
    all_goals
      go_enter Try.func16, Try.ntmps16
      go_wp2_with fail
      refine (o _).mono ?_
      rintro e w' ⟨rfl, rfl⟩
      go_wp2_with fail
      go_ret2
      exact ⟨rfl, rfl⟩
  · obtain ⟨rfl, rfl⟩ := hhi h0
    clear hlo hmid hhi
    cases neg
    all_goals
      go_enter Try.func16, Try.ntmps16
      go_wp2_with fail
      refine (o _).mono ?_
      rintro e w' ⟨rfl, rfl⟩
      go_wp2_with fail
      go_ret2
      exact ⟨rfl, rfl⟩
set_option maxRecDepth 100000 in
theorem rWhole_out (a : Nat) (neg : Bool) (o : ∀ w : World, Calls Try.prog 14 #[.int .u64 a] w fun e w' => e = .returned (.tuple #[.int .u8 2, .bool neg]) ∧ w = w')
    (E : Nat) (hE : (a : Int) / 4503599627370496 % 2048 = E) (hE2 : (E : Int) < 1023 ∨ 1086 < (E : Int)) (w : World) :
    Calls Try.prog 16 #[.int .u64 a] w fun e w' => e = .returned (.tuple #[.int .i64 0, .bool false]) ∧ w = w' := by
  have hb : (E : Int) < 2048 := by omega
  rcases hE2 with h | h
  all_goals
    go_enter Try.func16, Try.ntmps16
    go_wp2_with fail
    refine (o _).mono ?_
    rintro e w' ⟨rfl, rfl⟩
    go_wp2_with fail
    go_ret2
    exact ⟨rfl, rfl⟩
theorem rWhole_zero (a : Nat) (neg : Bool) (o : ∀ w : World, Calls Try.prog 14 #[.int .u64 a] w fun e w' => e = .returned (.tuple #[.int .u8 4, .bool neg]) ∧ w = w') (w : World) :
    Calls Try.prog 16 #[.int .u64 a] w fun e w' => e = .returned (.tuple #[.int .i64 0, .bool true]) ∧ w = w' := by
  go_enter Try.func16, Try.ntmps16
  go_wp2_with fail
  refine (o _).mono ?_
  rintro e w' ⟨rfl, rfl⟩
  go_wp2_with fail
  go_ret2
  exact ⟨rfl, rfl⟩
set_option maxRecDepth 100000 in
theorem rWhole_odd (a : Nat) (neg : Bool) (k : Int) (hk : k = 0 ∨ k = 1 ∨ k = 3) (o : ∀ w : World, Calls Try.prog 14 #[.int .u64 a] w fun e w' => e = .returned (.tuple #[.int .u8 k, .bool neg]) ∧ w = w') (w : World) :
    Calls Try.prog 16 #[.int .u64 a] w fun e w' => e = .returned (.tuple #[.int .i64 0, .bool false]) ∧ w = w' := by
  rcases hk with rfl | rfl | rfl
  all_goals
    go_enter Try.func16, Try.ntmps16
    go_wp2_with fail
    refine (o _).mono ?_
    rintro e w' ⟨rfl, rfl⟩
    go_wp2_with fail
    go_ret2
    exact ⟨rfl, rfl⟩
end Go.Proofs.Ythhlgdjpopdboaa
