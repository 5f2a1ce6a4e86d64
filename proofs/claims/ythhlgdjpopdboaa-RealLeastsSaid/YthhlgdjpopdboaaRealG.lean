/- The walk of the reference's Of. -/
import Derived.Test.YthhlgdjpopdboaaRealE
import Derived.LoopTactic
namespace Go.Proofs.Ythhlgdjpopdboaa
open Go.RowKit FloatPlain Ieee

theorem ret_ub {k k' : Int} {b b' : Bool} (h : k = k') (g : b = b') : Ending.returned (.tuple #[.int .u64 k, .bool b]) = .returned (.tuple #[.int .u64 k', .bool b']) := by rw [h, g]
/-- the first loop: m is M times 2^j -/
def R1 (M : Nat) (m e : Value) : Prop := ∃ (j : Nat) (X x : Int), m = .int .u64 X ∧ e = .int .u64 x ∧ X = ((M * 2 ^ j : Nat) : Int) ∧ x = 52 - j ∧ j ≤ 52 ∧ (j = 0 ∨ M * 2 ^ j < 2 ^ 53)
/-- the second loop: s places more -/
def R2 (N : Nat) (x0 : Int) (e sh : Value) : Prop := ∃ (s : Nat) (x : Int), e = .int .u64 x ∧ sh = .int .u64 s ∧ x = x0 + s ∧ s ≤ 11 ∧ (s = 0 ∨ 2 ^ 53 ≤ N / 2 ^ (s - 1))
theorem R1.next {M j : Nat} {X x : Int} (hX : X = ((M * 2 ^ j : Nat) : Int)) (hx : x = 52 - j) (hM : 0 < M) (h : X < 4503599627370496) : j + 1 ≤ 52 ∧ 2 * X = ((M * 2 ^ (j + 1) : Nat) : Int) ∧ x - 1 = 52 - ((j + 1 : Nat) : Int) ∧ M * 2 ^ (j + 1) < 2 ^ 53 := by
  have h1 : M * 2 ^ j < 2 ^ 52 := by omega
  have h2 : 2 ^ j ≤ M * 2 ^ j := Nat.le_mul_of_pos_left _ hM
  have h3 : 2 ^ j < 2 ^ 52 := by omega
  have h4 : j < 52 := (Nat.pow_lt_pow_iff_right (by omega)).1 h3
  have h5 : M * 2 ^ (j + 1) = 2 * (M * 2 ^ j) := by rw [Nat.pow_succ, ← Nat.mul_assoc, Nat.mul_comm]
  rw [h5]
  exact ⟨by omega, by omega, by omega, by omega⟩
theorem R2.lt {N s : Nat} (hN : N < 2 ^ 64) (h : 2 ^ 53 ≤ N / 2 ^ s) : s + 1 ≤ 11 := by
  have hp := two_pow_pos s
  have h1 : 2 ^ 53 * 2 ^ s ≤ N := by
    have := Nat.div_mul_le_self N (2 ^ s)
    have := Nat.mul_le_mul_right (2 ^ s) h
    omega
  rw [← Nat.pow_add] at h1
  have h2 : 2 ^ (53 + s) < 2 ^ 64 := by omega
  have := (Nat.pow_lt_pow_iff_right (by omega)).1 h2
  omega
/-- what the walk's end needs, in whole numbers -/
structure Tail (O : Int) (OB : Bool) (sg X x : Int) (s : Nat) (Q : Int) : Prop where
  q0 : 4503599627370496 ≤ Q
  q1 : Q < 9007199254740992
  x0 : 0 ≤ x
  x1 : x ≤ 63
  zero : s = 0 → Q = X ∧ O = sg + (x + 1022) * 4503599627370496 + Q ∧ OB = true
  some : s ≠ 0 → ∃ R H : Int, X % ((2 ^ s : Nat) : Int) = R ∧ ((2 ^ (s - 1) : Nat) : Int) = H ∧ 0 < H ∧ 0 ≤ R ∧ OB = (R == 0) ∧
    (((H < R ∨ (R = H ∧ Q % 2 = 1)) ∧ O = sg + (x + 1022) * 4503599627370496 + (Q + 1)) ∨ (¬ H < R ∧ ¬ (R = H ∧ Q % 2 = 1) ∧ O = sg + (x + 1022) * 4503599627370496 + Q))
theorem tail_of {n : Int} {M j s : Nat} {X x Q : Int} (hn : -9223372036854775808 ≤ n) (hn' : n ≤ 9223372036854775807) (hM : M = n.natAbs) (L : FloatPlain.Left M j s) (hX : X = ((M * 2 ^ j : Nat) : Int)) (hx : x = 52 - j + s) (hs : s ≤ 11) (hQ : X / 2 ^ s = Q) :
    Tail (ofW n) (ofB n) (if n < 0 then 9223372036854775808 else 0) X x s Q := by
  subst hM
  have hQ' : Q = ((n.natAbs * 2 ^ j / 2 ^ s : Nat) : Int) := by rw [← hQ, hX, pow_cast]; exact (Int.natCast_ediv _ _).symm
  have h1 := L.norm
  have h2 := L.hi
  have hj := L.jle
  have hw := L.whole
  have hE := L.E_bd
  have hB := ofW_whole hn (by omega) L
  have hof : (ofW n : Int) = (if n < 0 then 9223372036854775808 else 0) + (x + 1022) * 4503599627370496 + (E (n.natAbs * 2 ^ j) s : Int) := by
    unfold ofW word
    rw [hw]
    by_cases h : n < 0
    · simp only [h, decide_true, if_true]; omega
    · simp only [h, decide_false, if_false]; simp; omega
  refine ⟨by omega, by omega, by omega, by omega, ?_, ?_⟩
  · intro h
    subst h
    rw [E_zero] at hof
    have e : Q = X := by rw [hQ', hX]; simp
    refine ⟨e, by rw [hof, e, hX], ?_⟩
    unfold ofB
    rw [hB]; simp [Nat.mod_one]
  · intro h
    have er := E_ref (n.natAbs * 2 ^ j) s h
    have hp := two_pow_pos (s - 1)
    generalize hN : n.natAbs * 2 ^ j = N at *
    have hR : X % ((2 ^ s : Nat) : Int) = ((N % 2 ^ s : Nat) : Int) := by rw [hX]; exact (Int.natCast_emod _ _).symm
    refine ⟨_, _, hR, rfl, by omega, Int.natCast_nonneg _, ?_, ?_⟩
    · unfold ofB
      rw [hB, Bool.eq_iff_iff]; simp only [decide_eq_true_eq, beq_iff_eq]; omega
    · by_cases hc : 2 ^ (s - 1) < N % 2 ^ s ∨ (N % 2 ^ s = 2 ^ (s - 1) ∧ 0 < N % 2 ^ s ∧ N / 2 ^ s % 2 = 1)
      · rw [if_pos hc] at er
        left
        refine ⟨?_, by rw [hof, er, hQ']; omega⟩
        rcases hc with hc | ⟨c1, c2, c3⟩
        · left; omega
        · right; omega
      · rw [if_neg hc] at er
        right
        refine ⟨by omega, ?_, by rw [hof, er, hQ']⟩
        rintro ⟨c1, c2⟩
        exact hc (.inr ⟨by omega, by omega, by omega⟩)

set_option maxRecDepth 100000 in
set_option maxHeartbeats 4000000 in
theorem rOf_pos (n : Int) (h0 : 0 < n) (h1 : n ≤ 9223372036854775807) (w : World) : Calls Try.prog 25 #[.int .i64 n] w fun e w' => e = .returned (.tuple #[.int .u64 (ofW n : Nat), .bool (ofB n)]) ∧ w = w' := by
  obtain ⟨M, hM⟩ : ∃ M : Nat, M = n.natAbs := ⟨_, rfl⟩
  have hMp : 0 < M := by omega
  have hMi : n = (M : Int) := by omega
  have hMl : M ≤ 9223372036854775808 := by omega
  have HM := Lib.hid hM
  have HMI := Lib.hid hMi
  have HML : True → M ≤ 9223372036854775808 := fun _ => hMl
  clear hM hMi hMl
  generalize hO : (ofW n : Int) = O
  generalize hOB : ofB n = OB
  have HO := Lib.hid hO
  have HOB := Lib.hid hOB
  clear hO hOB
  go_enter Try.func25, Try.ntmps25
  go_wp2_with fail
  go_loop [5, 6] (R1 M) (fun _ e => (intOf e).toNat)
  case atStart => exact ⟨0, _, _, rfl, rfl, by rw [HMI.out]; simp, by simp, by omega, .inl rfl⟩
  case round =>
    obtain ⟨j, X, x, rfl, rfl, hX, hx, hj, hl⟩ := hrel
    have x0 : 0 ≤ x := by omega
    have x1 : x ≤ 52 := by omega
    have X0 : 0 < X := by have := Nat.mul_pos hMp (two_pow_pos j); omega
    have HX := Lib.hid hX
    have Hx := Lib.hid hx
    have HL : True → (j = 0 ∨ M * 2 ^ j < 2 ^ 53) := fun _ => hl
    have X1 : X < 18446744073709551616 := by
      rcases hl with h | h
      · subst h; rw [Nat.pow_zero, Nat.mul_one] at hX; have := HML trivial; omega
      · omega
    clear hX hx hl
    by_cases hlt : X < 4503599627370496
    · obtain ⟨a1, a2, a3, a4⟩ := R1.next HX.out Hx.out hMp hlt
      have A2 := Lib.hid a2
      have A3 := Lib.hid a3
      have A4 : True → M * 2 ^ (j + 1) < 2 ^ 53 := fun _ => a4
      have xp : 0 < x := by have := Hx.out; omega
      clear a2 a3 a4
      go_wp2_with fail
      go_round
      case rel => exact ⟨j + 1, _, _, rfl, rfl, A2.out, A3.out, a1, .inr (A4 trivial)⟩
      case measure => simp [intOf]; omega
    · have hge : 4503599627370496 ≤ X := by omega
      clear hlt
      have XN : True → M * 2 ^ j < 2 ^ 64 := fun _ => by have := HX.out; omega
      go_wp2_with fail
      go_loop [6, 9] (R2 (M * 2 ^ j) x) (fun _ sh => 20 - (intOf sh).toNat)
      case atStart => exact ⟨0, _, rfl, rfl, by simp, by omega, .inl rfl⟩
      case round =>
        obtain ⟨s, y, rfl, rfl, hy, hs, hu⟩ := hrel
        have y0 : 0 ≤ y := by omega
        have y1 : y ≤ 63 := by omega
        have Hy := Lib.hid hy
        have HU : True → (s = 0 ∨ 2 ^ 53 ≤ M * 2 ^ j / 2 ^ (s - 1)) := fun _ => hu
        clear hy hu
        obtain ⟨Q, hQ⟩ : ∃ Q, X / 2 ^ s = Q := ⟨_, rfl⟩
        have HQ : Hid (Q = ((M * 2 ^ j / 2 ^ s : Nat) : Int)) := Lib.hid (by rw [← hQ, HX.out, pow_cast]; exact (Int.natCast_ediv _ _).symm)
        by_cases hlt : 9007199254740992 ≤ Q
        · have hs2 : s + 1 ≤ 11 := R2.lt (XN trivial) (by have := HQ.out; omega)
          go_wp2_with fail
          go_round
          case rel => exact ⟨s + 1, _, rfl, by go_num, by have := Hy.out; omega, hs2, .inr (by rw [Nat.add_sub_cancel]; have := HQ.out; omega)⟩
          case measure => simp [intOf]; omega
        · have hlt' : Q < 9007199254740992 := by omega
          have L : FloatPlain.Left M j s := ⟨by omega, hj, HL trivial, by have := HX.out; omega, by have := HQ.out; omega, HU trivial⟩
          have t := tail_of (n := n) (x := y) (by omega) (by omega) HM.out L HX.out (by have := Hx.out; have := Hy.out; omega) hs hQ
          rw [if_neg (by omega), HO.out, HOB.out] at t
          obtain ⟨t0, t1, t2, t3, t4, t5⟩ := t
          clear L hlt HML HL XN HU HQ
          by_cases hs0 : s = 0
          · subst hs0
            obtain ⟨rfl, u1, rfl⟩ := t4 rfl
            have U1 := Lib.hid u1
            clear t4 t5 u1
            go_wp2_with fail
            all_goals
              go_ret2
              refine ⟨ret_ub ?_ (by simp), rfl⟩
              have := U1.out
              omega
          · obtain ⟨R, H, r0, r1, r2, r3, rfl, r4⟩ := t5 hs0
            clear t4 t5
            have sp : 0 < s := by omega
            have dD : (2 : Int) ^ s = ((2 ^ s : Nat) : Int) := pow_cast s
            have dW : IntKind.u64.wrap ((2 ^ s : Nat) : Int) = ((2 ^ s : Nat) : Int) := by
              rw [IntKind.wrap_u64]
              have h1 : 2 ^ s ≤ 2 ^ 11 := Nat.pow_le_pow_right (by omega) hs
              have h2 := two_pow_pos s
              omega
            have hD : (2 : Int) ^ (s - 1) = H := by rw [pow_cast, r1]
            have hW : IntKind.u64.wrap H = H := by
              rw [IntKind.wrap_u64, ← r1]
              have h1 : 2 ^ (s - 1) ≤ 2 ^ 11 := Nat.pow_le_pow_right (by omega) (by omega)
              have h2 := two_pow_pos (s - 1)
              omega
            have hDp : (0 : Int) < ((2 ^ s : Nat) : Int) := by have := two_pow_pos s; omega
            generalize ((2 ^ s : Nat) : Int) = D at *
            have hQ2 : X / D = Q := by rw [← dD]; exact hQ
            have Hx' := Hx
            clear r1 hQ hs0 HX Hx Hy HM HMI
            rcases r4 with ⟨c | ⟨c, c'⟩, u⟩ | ⟨c, c', u⟩
            · have U := Lib.hid u
              clear u
              by_cases e53 : Q + 1 = 9007199254740992
              all_goals
                go_wp2_with fail
                all_goals
                  go_ret2
                  refine ⟨ret_ub ?_ (by simp), rfl⟩
                  have := U.out
                  omega
            · subst c
              have U := Lib.hid u
              clear u
              by_cases e53 : Q + 1 = 9007199254740992
              all_goals
                go_wp2_with fail
                all_goals
                  go_ret2
                  refine ⟨ret_ub ?_ (by simp), rfl⟩
                  have := U.out
                  omega
            · have U := Lib.hid u
              clear u
              by_cases c2 : R = H
              · subst c2
                have c3 : (Q % 2 == 1) = false := by rw [beq_eq_false_iff_ne]; exact fun e => c' ⟨rfl, e⟩
                clear c c'
                go_wp2_with fail
                all_goals
                  go_ret2
                  refine ⟨ret_ub ?_ (by simp), rfl⟩
                  have := U.out
                  omega
              · have c3 : (R == H) = false := by rw [beq_eq_false_iff_ne]; exact c2
                clear c' c2
                go_wp2_with fail
                all_goals
                  go_ret2
                  refine ⟨ret_ub ?_ (by simp), rfl⟩
                  have := U.out
                  omega

set_option maxRecDepth 100000 in
set_option maxHeartbeats 4000000 in
theorem rOf_neg (n : Int) (h0 : n < 0) (h1 : -9223372036854775808 ≤ n) (w : World) : Calls Try.prog 25 #[.int .i64 n] w fun e w' => e = .returned (.tuple #[.int .u64 (ofW n : Nat), .bool (ofB n)]) ∧ w = w' := by
  obtain ⟨M, hM⟩ : ∃ M : Nat, M = n.natAbs := ⟨_, rfl⟩
  have hMp : 0 < M := by omega
  have hMi : -(n + 1) + 1 = (M : Int) := by omega
  have hMl : M ≤ 9223372036854775808 := by omega
  have HM := Lib.hid hM
  have HMI := Lib.hid hMi
  have HML : True → M ≤ 9223372036854775808 := fun _ => hMl
  clear hM hMi hMl
  generalize hO : (ofW n : Int) = O
  generalize hOB : ofB n = OB
  have HO := Lib.hid hO
  have HOB := Lib.hid hOB
  clear hO hOB
  go_enter Try.func25, Try.ntmps25
  go_wp2_with fail
  go_loop [5, 6] (R1 M) (fun _ e => (intOf e).toNat)
  case atStart => exact ⟨0, _, _, rfl, rfl, by rw [HMI.out]; simp, by simp, by omega, .inl rfl⟩
  case round =>
    obtain ⟨j, X, x, rfl, rfl, hX, hx, hj, hl⟩ := hrel
    have x0 : 0 ≤ x := by omega
    have x1 : x ≤ 52 := by omega
    have X0 : 0 < X := by have := Nat.mul_pos hMp (two_pow_pos j); omega
    have HX := Lib.hid hX
    have Hx := Lib.hid hx
    have HL : True → (j = 0 ∨ M * 2 ^ j < 2 ^ 53) := fun _ => hl
    have X1 : X < 18446744073709551616 := by
      rcases hl with h | h
      · subst h; rw [Nat.pow_zero, Nat.mul_one] at hX; have := HML trivial; omega
      · omega
    clear hX hx hl
    by_cases hlt : X < 4503599627370496
    · obtain ⟨a1, a2, a3, a4⟩ := R1.next HX.out Hx.out hMp hlt
      have A2 := Lib.hid a2
      have A3 := Lib.hid a3
      have A4 : True → M * 2 ^ (j + 1) < 2 ^ 53 := fun _ => a4
      have xp : 0 < x := by have := Hx.out; omega
      clear a2 a3 a4
      go_wp2_with fail
      go_round
      case rel => exact ⟨j + 1, _, _, rfl, rfl, A2.out, A3.out, a1, .inr (A4 trivial)⟩
      case measure => simp [intOf]; omega
    · have hge : 4503599627370496 ≤ X := by omega
      clear hlt
      have XN : True → M * 2 ^ j < 2 ^ 64 := fun _ => by have := HX.out; omega
      go_wp2_with fail
      go_loop [6, 9] (R2 (M * 2 ^ j) x) (fun _ sh => 20 - (intOf sh).toNat)
      case atStart => exact ⟨0, _, rfl, rfl, by simp, by omega, .inl rfl⟩
      case round =>
        obtain ⟨s, y, rfl, rfl, hy, hs, hu⟩ := hrel
        have y0 : 0 ≤ y := by omega
        have y1 : y ≤ 63 := by omega
        have Hy := Lib.hid hy
        have HU : True → (s = 0 ∨ 2 ^ 53 ≤ M * 2 ^ j / 2 ^ (s - 1)) := fun _ => hu
        clear hy hu
        obtain ⟨Q, hQ⟩ : ∃ Q, X / 2 ^ s = Q := ⟨_, rfl⟩
        have HQ : Hid (Q = ((M * 2 ^ j / 2 ^ s : Nat) : Int)) := Lib.hid (by rw [← hQ, HX.out, pow_cast]; exact (Int.natCast_ediv _ _).symm)
        by_cases hlt : 9007199254740992 ≤ Q
        · have hs2 : s + 1 ≤ 11 := R2.lt (XN trivial) (by have := HQ.out; omega)
          go_wp2_with fail
          go_round
          case rel => exact ⟨s + 1, _, rfl, by go_num, by have := Hy.out; omega, hs2, .inr (by rw [Nat.add_sub_cancel]; have := HQ.out; omega)⟩
          case measure => simp [intOf]; omega
        · have hlt' : Q < 9007199254740992 := by omega
          have L : FloatPlain.Left M j s := ⟨by omega, hj, HL trivial, by have := HX.out; omega, by have := HQ.out; omega, HU trivial⟩
          have t := tail_of (n := n) (x := y) (by omega) (by omega) HM.out L HX.out (by have := Hx.out; have := Hy.out; omega) hs hQ
          rw [if_pos h0, HO.out, HOB.out] at t
          obtain ⟨t0, t1, t2, t3, t4, t5⟩ := t
          clear L hlt HML HL XN HU HQ
          by_cases hs0 : s = 0
          · subst hs0
            obtain ⟨rfl, u1, rfl⟩ := t4 rfl
            have U1 := Lib.hid u1
            clear t4 t5 u1
            go_wp2_with fail
            all_goals
              go_ret2
              refine ⟨ret_ub ?_ (by simp), rfl⟩
              have := U1.out
              omega
          · obtain ⟨R, H, r0, r1, r2, r3, rfl, r4⟩ := t5 hs0
            clear t4 t5
            have sp : 0 < s := by omega
            have dD : (2 : Int) ^ s = ((2 ^ s : Nat) : Int) := pow_cast s
            have dW : IntKind.u64.wrap ((2 ^ s : Nat) : Int) = ((2 ^ s : Nat) : Int) := by
              rw [IntKind.wrap_u64]
              have h1 : 2 ^ s ≤ 2 ^ 11 := Nat.pow_le_pow_right (by omega) hs
              have h2 := two_pow_pos s
              omega
            have hD : (2 : Int) ^ (s - 1) = H := by rw [pow_cast, r1]
            have hW : IntKind.u64.wrap H = H := by
              rw [IntKind.wrap_u64, ← r1]
              have h1 : 2 ^ (s - 1) ≤ 2 ^ 11 := Nat.pow_le_pow_right (by omega) (by omega)
              have h2 := two_pow_pos (s - 1)
              omega
            have hDp : (0 : Int) < ((2 ^ s : Nat) : Int) := by have := two_pow_pos s; omega
            generalize ((2 ^ s : Nat) : Int) = D at *
            have hQ2 : X / D = Q := by rw [← dD]; exact hQ
            have Hx' := Hx
            clear r1 hQ hs0 HX Hx Hy HM HMI
            rcases r4 with ⟨c | ⟨c, c'⟩, u⟩ | ⟨c, c', u⟩
            · have U := Lib.hid u
              clear u
              by_cases e53 : Q + 1 = 9007199254740992
              all_goals
                go_wp2_with fail
                all_goals
                  go_ret2
                  refine ⟨ret_ub ?_ (by simp), rfl⟩
                  have := U.out
                  omega
            · subst c
              have U := Lib.hid u
              clear u
              by_cases e53 : Q + 1 = 9007199254740992
              all_goals
                go_wp2_with fail
                all_goals
                  go_ret2
                  refine ⟨ret_ub ?_ (by simp), rfl⟩
                  have := U.out
                  omega
            · have U := Lib.hid u
              clear u
              by_cases c2 : R = H
              · subst c2
                have c3 : (Q % 2 == 1) = false := by rw [beq_eq_false_iff_ne]; exact fun e => c' ⟨rfl, e⟩
                clear c c'
                go_wp2_with fail
                all_goals
                  go_ret2
                  refine ⟨ret_ub ?_ (by simp), rfl⟩
                  have := U.out
                  omega
              · have c3 : (R == H) = false := by rw [beq_eq_false_iff_ne]; exact c2
                clear c' c2
                go_wp2_with fail
                all_goals
                  go_ret2
                  refine ⟨ret_ub ?_ (by simp), rfl⟩
                  have := U.out
                  omega
end Go.Proofs.Ythhlgdjpopdboaa
