/- What the reference's Whole tells is what the program's tells. -/
import Derived.Test.YthhlgdjpopdboaaRealD
import Derived.Test.YthhlgdjpopdboaaFloatRef
namespace Go.Proofs.Ythhlgdjpopdboaa
open Go.RowKit FloatPlain Ieee

theorem wholeN_no {a : Nat} (h : wholeB a = false) : wholeN a = 0 := by unfold wholeN; rw [h]; rfl
theorem wholeN_yes {a : Nat} (h : wholeB a = true) : wholeN a = tInt a := by unfold wholeN; rw [if_pos h]
theorem pow_cast (s : Nat) : (2 : Int) ^ s = ((2 ^ s : Nat) : Int) := by rw [Int.natCast_pow]; rfl
theorem rWhole_any (a : Nat) (ha : a < 2 ^ 64) (w : World) : Calls Try.prog 16 #[.int .u64 a] w fun e w' => e = .returned (.tuple #[.int .i64 (wholeN a), .bool (wholeB a)]) ∧ w = w' := by
  have o := fun w => rKind_any a ha w
  by_cases hn : rung a < inf
  · by_cases h0 : rung a = 0
    · have hk : kindI a = 4 := (kind_zero a).2 h0
      obtain ⟨e1, e2⟩ := whole_zero h0
      rw [wholeN_yes e1, e1, e2]
      rw [hk] at o
      exact rWhole_zero a _ o w
    by_cases h1 : rung a < 2 ^ 52
    · have hk : kindI a = 3 := by unfold kindI; rw [if_neg (by omega), if_neg (by omega), if_neg (by omega), if_neg h0]
      have e1 := wholeB_sub (by omega) h1
      rw [wholeN_no e1, e1]
      exact rWhole_odd a _ _ (by rw [hk]; simp) o w
    have hk : kindI a = 2 := by unfold kindI; rw [if_neg (by omega), if_neg (by omega), if_pos (by omega)]
    rw [hk] at o
    obtain ⟨E, hE⟩ : ∃ E : Nat, E = a / 4503599627370496 % 2048 := ⟨_, rfl⟩
    obtain ⟨m, hm⟩ : ∃ m : Nat, m = a % 4503599627370496 + 4503599627370496 := ⟨_, rfl⟩
    have p : Parts a E m := by
      unfold rung at hn h1 
      unfold inf at hn
      exact ⟨by omega, by omega, by omega, by omega, by unfold rung; omega⟩
    have hEi : (a : Int) / 4503599627370496 % 2048 = E := by omega
    have hmi : (a : Int) % 4503599627370496 + 4503599627370496 = m := by omega
    by_cases c0 : E < 1023
    · have e1 := p.low c0
      rw [wholeN_no e1, e1]
      exact rWhole_out a _ o E hEi (.inl (by omega)) w
    by_cases c1 : 1086 < E
    · have e1 := p.high c1
      rw [wholeN_no e1, e1]
      exact rWhole_out a _ o E hEi (.inr (by omega)) w
    by_cases c2 : E ≤ 1075
    · obtain ⟨s, hs⟩ : ∃ s, s = 1075 - E := ⟨_, rfl⟩
      have hs' : E + s = 1075 := by omega
      have z := p.mid_zero hs'
      have t := (p.mid hs').2
      have hD := two_pow_pos s
      have hD' : 2 ^ s ≤ 2 ^ 52 := Nat.pow_le_pow_right (by omega) (by omega)
      have hT := Nat.div_le_self m (2 ^ s)
      have m1 := p.m1
      have fin := p.fin
      have hTi : ((m : Int) / ((2 ^ s : Nat) : Int)) = ((m / 2 ^ s : Nat) : Int) := (Int.natCast_ediv _ _).symm
      have hMi : ((m : Int) % ((2 ^ s : Nat) : Int)) = ((m % 2 ^ s : Nat) : Int) := (Int.natCast_emod _ _).symm
      have hW : IntKind.u64.wrap ((2 ^ s : Nat) : Int) = ((2 ^ s : Nat) : Int) := by rw [IntKind.wrap_u64]; omega
      refine rWhole_mid a s m ((2 ^ s : Nat) : Int) ((m / 2 ^ s : Nat) : Int) (sgn a) _ _ o E hEi (by omega) hmi (by omega) (pow_cast s) (by omega) hW hTi (by omega) (by omega) ?_ ?_ w
      · intro h
        rw [hMi] at h
        have e1 : wholeB a = false := wholeB_no (fun h' => h (by rw [z.1 h']; rfl))
        exact ⟨wholeN_no e1, e1⟩
      · intro h
        rw [hMi] at h
        have h0' := z.2 (by omega)
        have e1 : wholeB a = true := by
          rw [wholeB_T fin h0', t]
          split
          · exact decide_eq_true (by omega)
          · exact decide_eq_true (by omega)
        refine ⟨?_, e1⟩
        rw [wholeN_yes e1]; unfold tInt; rw [t]
    · obtain ⟨s, hs⟩ : ∃ s, s = E - 1075 := ⟨_, rfl⟩
      obtain ⟨h0', t⟩ := p.up (s := s) (by omega)
      have m1 := p.m1
      have fin := p.fin
      have hD' : 2 ^ s ≤ 2 ^ 11 := Nat.pow_le_pow_right (by omega) (by omega)
      have hX : m * 2 ^ s < 2 ^ 64 := by
        have : m * 2 ^ s ≤ m * 2 ^ 11 := Nat.mul_le_mul_left _ hD'
        omega
      have hMi : IntKind.u64.wrap ((m : Int) * 2 ^ s) = ((m * 2 ^ s : Nat) : Int) := by
        rw [pow_cast, ← Int.natCast_mul, IntKind.wrap_u64]; omega
      have eB := wholeB_T fin h0'
      have eI : tInt a = if sgn a then -((m * 2 ^ s : Nat) : Int) else ((m * 2 ^ s : Nat) : Int) := by unfold tInt; rw [t]
      rw [t] at eB
      generalize m * 2 ^ s = X at *
      refine rWhole_up a s m (X : Int) (sgn a) _ _ o E hEi (by omega) hmi (by omega) (by omega) hMi (by omega) ?_ ?_ ?_ w
      · intro h
        have e1 : wholeB a = true := by
          rw [eB]; split
          · exact decide_eq_true (by omega)
          · exact decide_eq_true (by omega)
        exact ⟨by rw [wholeN_yes e1, eI], e1⟩
      · intro h
        have hx : X = 9223372036854775808 := by omega
        subst hx
        cases hg : sgn a
        · rw [hg] at eB
          have e1 : wholeB a = false := by rw [eB]; decide
          exact ⟨by rw [wholeN_no e1]; rfl, e1⟩
        · rw [hg] at eB eI
          have e1 : wholeB a = true := by rw [eB]; decide
          exact ⟨by rw [wholeN_yes e1, eI]; rfl, e1⟩
      · intro h
        have e1 : wholeB a = false := by
          rw [eB]; split
          · exact decide_eq_false (by omega)
          · exact decide_eq_false (by omega)
        exact ⟨wholeN_no e1, e1⟩
  · have e1 := whole_inf hn
    rw [wholeN_no e1, e1]
    refine rWhole_odd a _ _ ?_ o w
    by_cases h : inf < rung a
    · left; exact (kind_nan a).2 h
    · right; left; unfold kindI; rw [if_neg h, if_pos (by omega)]
end Go.Proofs.Ythhlgdjpopdboaa
