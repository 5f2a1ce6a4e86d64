/- The walks of package sat, and of its reference: quotients of products, units. -/
import Derived.Test.YtjnmikncgglfmaaSatD
import Derived.Below
namespace Go.Proofs.Ytjnmikncgglfmaa
open Go.RowKit SatPlain DivPlain

theorem below_drewN {B : Nat} (w : World) (n : Nat) : Below B w (w.drewN n) := ⟨rfl, rfl, rfl, Nat.le_refl _, fun _ _ => rfl⟩
theorem bel {a b c : World} (h : Below a.heap.size a b) (k : Below b.heap.size b c) : Below a.heap.size a c := h.trans (k.mono h.size)
theorem below_alloc (w : World) (o : Obj) : Below w.heap.size w (w.alloc o) := (Below.refl _ _).alloc (Nat.le_refl _) _

theorem scale1_big (H L c : Int) (n : Nat) (h : c ≤ H) (hc : 1 ≤ c) (hc' : c ≤ 9223372036854775807) (w : World) (hr : w.cell? ⟨n, 0, none⟩ = some (.int .i64 c)) :
    Calls Try.prog 28 #[.int .u64 H, .int .u64 L, .pointer (some ⟨n, 0, none⟩)] w fun e w' => e = .returned (.int .u64 4611686018427387904) ∧ Below w.heap.size w w' := by
  go_enter Try.func28, Try.ntmps28
  go_wp2_with fail
  go_ret
  exact ⟨rfl, Below.refl _ _⟩
theorem scale1_low (H L c : Nat) (n : Nat) (h : H < c) (hc' : c ≤ 9223372036854775807) (hL : L < 18446744073709551616) (w : World) (hr : w.cell? ⟨n, 0, none⟩ = some (.int .i64 c)) :
    Calls Try.prog 28 #[.int .u64 H, .int .u64 L, .pointer (some ⟨n, 0, none⟩)] w fun e w' => e = .returned (.int .u64 (((H * 18446744073709551616 + L) / c : Nat) : Int)) ∧ Below w.heap.size w w' := by
  have cd := div64_any H L c w h hL (by omega)
  generalize (((H * 18446744073709551616 + L) / c : Nat) : Int) = Q at *
  have h1 : (H : Int) < c := by omega
  have h2 : (1 : Int) ≤ c := by omega
  have h3 : (c : Int) ≤ 9223372036854775807 := by omega
  clear h hc' hL
  generalize (H : Int) = H at *
  generalize (L : Int) = L at *
  generalize (c : Int) = c at *
  go_enter Try.func28, Try.ntmps28
  go_wp2_with fail
  refine cd.mono ?_
  rintro e w' ⟨⟨r, rfl⟩, _, rfl⟩
  go_wp2_with fail
  go_ret
  exact ⟨rfl, below_drewN _ _⟩

/-- products of two sizes that are not 0, by what the closure of Scale makes of them -/
theorem product_scale (a b : Int) (w : World) (x y P c : Nat) (n : Nat) (s : Bool) (ca : Sized a x s) (cb : Sized b y s) (hx : 0 < x) (hy : 0 < y) (hx' : x < 18446744073709551616) (hy' : y < 18446744073709551616) (hP : x * y = P)
    (hc : 1 ≤ c) (hc' : c ≤ 9223372036854775807) (hr : w.cell? ⟨n, 0, none⟩ = some (.int .i64 c)) :
    Calls Try.prog 25 #[.int .i64 a, .int .i64 b, .func (.func 28) #[] #[.pointer (some ⟨n, 0, none⟩)]] w fun e w' => e = .returned (.int .i64 (clip ((P / c : Nat) : Int))) ∧ Below w.heap.size w w' := by
  have cm := mul64_any x y hx' hy' w
  rw [hP] at cm
  have CA := Lib.hid ca
  have CB := Lib.hid cb
  have h1 : ((x : Int) == 0) = false := by rw [beq_eq_false_iff_ne]; omega
  have h2 : ((y : Int) == 0) = false := by rw [beq_eq_false_iff_ne]; omega
  clear ca cb hP
  by_cases hb : c ≤ P / 18446744073709551616
  · have hbig : 18446744073709551616 ≤ P / c := by
      rw [Nat.le_div_iff_mul_le (by omega)]
      rw [Nat.le_div_iff_mul_le (by omega)] at hb
      rw [Nat.mul_comm]; exact hb
    rw [clip_big (by omega)]
    have cf := fun l => scale1_big ((P / 18446744073709551616 : Nat) : Int) l c n (by omega) (by omega) (by omega) w hr
    clear hb hbig hr
    generalize ((P / 18446744073709551616 : Nat) : Int) = H at *
    generalize ((P % 18446744073709551616 : Nat) : Int) = L at *
    clear hx hy
    go_enter Try.func25, Try.ntmps25
    go_wp2_with fail
    refine (CA.out _).mono ?_
    rintro e w' ⟨rfl, rfl⟩
    go_wp2_with fail
    refine (CB.out _).mono ?_
    rintro e w' ⟨rfl, rfl⟩
    go_wp2_with fail
    refine cm.mono ?_
    rintro e w' ⟨rfl, rfl⟩
    go_wp2_with fail
    refine (cf _).mono ?_
    rintro e w' ⟨rfl, bl⟩
    have BL := Lib.hid bl
    clear bl
    go_wp2_with fail
    go_ret
    exact ⟨rfl, BL.out⟩
  · have cf := scale1_low (P / 18446744073709551616) (P % 18446744073709551616) c n (by omega) hc' (Nat.mod_lt _ (by decide)) w hr
    have hq0 : P / 18446744073709551616 * 18446744073709551616 + P % 18446744073709551616 = P := by omega
    rw [hq0] at cf
    have hlt : P / c < 18446744073709551616 := by
      rw [Nat.div_lt_iff_lt_mul (by omega), Nat.mul_comm]
      rw [Nat.not_le, Nat.div_lt_iff_lt_mul (by omega)] at hb
      exact hb
    clear hb hq0 hr hc hc'
    generalize P / c = Q at *
    have hQ : (Q : Int) < 18446744073709551616 := by omega
    have hQ0 : (0 : Int) ≤ Q := by omega
    clear hlt
    generalize (Q : Int) = Q at *
    generalize ((P / 18446744073709551616 : Nat) : Int) = H at *
    generalize ((P % 18446744073709551616 : Nat) : Int) = L at *
    by_cases hm : 4611686018427387904 < Q
    · rw [clip_big (by omega)]
      clear hx hy
      go_enter Try.func25, Try.ntmps25
      go_wp2_with fail
      refine (CA.out _).mono ?_
      rintro e w' ⟨rfl, rfl⟩
      go_wp2_with fail
      refine (CB.out _).mono ?_
      rintro e w' ⟨rfl, rfl⟩
      go_wp2_with fail
      refine cm.mono ?_
      rintro e w' ⟨rfl, rfl⟩
      go_wp2_with fail
      refine cf.mono ?_
      rintro e w' ⟨rfl, bl⟩
      have BL := Lib.hid bl
      clear bl
      go_wp2_with fail
      go_ret
      exact ⟨ret_int (show min Q 4611686018427387904 = _ by omega), BL.out⟩
    · rw [clip_of (by omega) (by omega)]
      clear hx hy
      go_enter Try.func25, Try.ntmps25
      go_wp2_with fail
      refine (CA.out _).mono ?_
      rintro e w' ⟨rfl, rfl⟩
      go_wp2_with fail
      refine (CB.out _).mono ?_
      rintro e w' ⟨rfl, rfl⟩
      go_wp2_with fail
      refine cm.mono ?_
      rintro e w' ⟨rfl, rfl⟩
      go_wp2_with fail
      refine cf.mono ?_
      rintro e w' ⟨rfl, bl⟩
      have BL := Lib.hid bl
      clear bl
      go_wp2_with fail
      go_ret
      exact ⟨ret_int (show min Q 4611686018427387904 = _ by omega), BL.out⟩

theorem scale_small {a b c : Int} (h : c < 1) : scale a b c = 0 := by unfold scale; rw [if_pos h]
theorem scale_low {a b c : Int} (hc : 1 ≤ c) (h : a * b ≤ 0) : scale a b c = 0 := by
  unfold scale
  rw [if_neg (by omega), clip_neg]
  have := Int.ediv_le_ediv (c := c) (by omega) h
  rwa [Int.zero_ediv] at this
theorem pScale_any (a b c : Int) (ha : I64 a) (hb : I64 b) (hc : I64 c) (w : World) : Calls Try.prog 20 #[.int .i64 a, .int .i64 b, .int .i64 c] w fun e w' => e = .returned (.int .i64 (scale a b c)) ∧ Below w.heap.size w w' := by
  by_cases h : c < 1
  · rw [scale_small h]
    go_enter Try.func20, Try.ntmps20
    go_wp2_with fail
    go_ret
    exact ⟨rfl, below_alloc _ _⟩
  · have hc2 := hc.2
    have sa := sized_of a ha
    have sb := sized_of b hb
    have hr : (w.alloc (Obj.cells #[Value.int IntKind.i64 c] 2)).cell? ⟨w.heap.size, 0, none⟩ = some (.int .i64 c) := by
      unfold World.alloc World.cell?
      simp
    have c : Calls Try.prog 25 #[.int .i64 a, .int .i64 b, .func (.func 28) #[] #[.pointer (some ⟨w.heap.size, 0, none⟩)]] (w.alloc (Obj.cells #[Value.int IntKind.i64 c] 2)) fun e w' => e = .returned (.int .i64 (scale a b c)) ∧ Below w.heap.size w w' := by
      by_cases hs : decide (a < 0) = decide (b < 0)
      · have en := natAbs_mul_same hs
        rw [← hs] at sb
        by_cases h0 : a.natAbs = 0 ∨ (0 < a.natAbs ∧ b.natAbs = 0)
        · rw [scale_low (by omega) (by rw [← en]; rcases h0 with h | ⟨_, h⟩ <;> rw [h] <;> simp)]
          exact (product_zero a b _ _ _ _ _ sa sb h0).mono fun _ _ h => ⟨h.1, h.2 ▸ below_alloc _ _⟩
        · obtain ⟨k, rfl⟩ := Int.eq_ofNat_of_zero_le (a := c) (by omega)
          have e : scale a b k = clip ((a.natAbs * b.natAbs / k : Nat) : Int) := by
            unfold scale
            rw [if_neg h, ← en]; rfl
          rw [e]
          refine (product_scale a b _ _ _ _ k _ _ sa sb (by omega) (by omega) (by have := ha.1; have := ha.2; omega) (by have := hb.1; have := hb.2; omega) rfl (by omega) (by omega) hr).mono fun _ _ h => ⟨h.1, bel (below_alloc _ _) h.2⟩
      · rw [scale_low (by omega) (mul_apart hs)]
        have e : decide (b < 0) = !decide (a < 0) := by
          cases h1 : decide (a < 0) <;> cases h2 : decide (b < 0) <;> simp_all
        rw [e] at sb
        exact (product_apart a b _ _ _ _ _ sa sb).mono fun _ _ h => ⟨h.1, h.2 ▸ below_alloc _ _⟩
    clear sa sb hr
    rename_i c0
    go_enter Try.func20, Try.ntmps20
    go_wp2_with fail
    refine c.mono ?_
    rintro e w' ⟨rfl, bl⟩
    have BL := Lib.hid bl
    clear bl
    go_wp2_with fail
    go_ret
    exact ⟨rfl, BL.out⟩

/-! ### units -/
theorem pUnits_any (n u : Int) (_hn : I64 n) (hu : I64 u) (w : World) : Calls Try.prog 22 #[.int .i64 n, .int .i64 u] w fun e w' => e = .returned (.int .i64 (units n u)) ∧ w = w' := by
  obtain ⟨u0, u1⟩ := hu
  by_cases h1 : n < 1
  · rw [show units n u = 0 from by unfold units; rw [if_pos (.inl h1)]]
    go_enter Try.func22, Try.ntmps22
    go_wp2_with fail
    go_ret
    exact ⟨rfl, rfl⟩
  by_cases h2 : u < 1
  · rw [show units n u = 0 from by unfold units; rw [if_pos (.inr h2)]]
    go_enter Try.func22, Try.ntmps22
    go_wp2_with fail
    go_ret
    exact ⟨rfl, rfl⟩
  rw [show units n u = (clip n - 1) / u + 1 from by unfold units; rw [if_neg (by omega)]]
  have c := pClip_any n w
  have k0 : 1 ≤ clip n := by unfold clip; split <;> (try split) <;> omega
  have k1 := clip_hi n
  have n2 : (u == 0) = false := by rw [beq_eq_false_iff_ne]; omega
  have q0 : 0 ≤ (clip n - 1) / u := Int.ediv_nonneg (by omega) (by omega)
  have q1 : (clip n - 1) / u ≤ clip n - 1 := Int.ediv_le_self _ (by omega)
  have n3 : 1 ≤ n := by omega
  have n4 : 1 ≤ u := by omega
  clear h1 h2 _hn
  generalize clip n = C at *
  go_enter Try.func22, Try.ntmps22
  go_wp2_with fail
  refine c.mono ?_
  rintro e w' ⟨rfl, rfl⟩
  go_wp2_with fail
  go_ret
  refine ⟨?_, rfl⟩
  exact rfl
theorem rUnits_any (n u : Int) (_hn : I64 n) (hu : I64 u) (w : World) : Calls Try.prog 23 #[.int .i64 n, .int .i64 u] w fun e w' => e = .returned (.int .i64 (units n u)) ∧ w = w' := by
  obtain ⟨u0, u1⟩ := hu
  by_cases h1 : n < 1
  · rw [show units n u = 0 from by unfold units; rw [if_pos (.inl h1)]]
    go_enter Try.func23, Try.ntmps23
    go_wp2_with fail
    go_ret
    exact ⟨rfl, rfl⟩
  by_cases h2 : u < 1
  · rw [show units n u = 0 from by unfold units; rw [if_pos (.inr h2)]]
    go_enter Try.func23, Try.ntmps23
    go_wp2_with fail
    go_ret
    exact ⟨rfl, rfl⟩
  rw [← units_ref (by omega) (by omega)]
  have c := rClip_any n w
  have k0 : 1 ≤ clip n := by unfold clip; split <;> (try split) <;> omega
  have k1 := clip_hi n
  have n2 : (u == 0) = false := by rw [beq_eq_false_iff_ne]; omega
  have q0 : 0 ≤ clip n / u := Int.ediv_nonneg (by omega) (by omega)
  have q1 : clip n / u ≤ clip n := Int.ediv_le_self _ (by omega)
  have n3 : 1 ≤ n := by omega
  have n4 : 1 ≤ u := by omega
  clear h1 h2 _hn
  generalize clip n = C at *
  by_cases hm : 0 < C % u
  · rw [if_pos hm]
    go_enter Try.func23, Try.ntmps23
    go_wp2_with fail
    refine c.mono ?_
    rintro e w' ⟨rfl, rfl⟩
    go_wp2_with fail
    go_ret
    exact ⟨rfl, rfl⟩
  · rw [if_neg hm]
    go_enter Try.func23, Try.ntmps23
    go_wp2_with fail
    refine c.mono ?_
    rintro e w' ⟨rfl, rfl⟩
    go_wp2_with fail
    go_ret
    exact ⟨rfl, rfl⟩

theorem is_any (n : Int) (h0 : 0 ≤ n) (h1 : n ≤ 4611686018427387904) (w : World) : Calls Try.prog 24 #[.int .i64 n] w fun e w' => e = .returned (.bool true) ∧ w = w' := by
  go_enter Try.func24, Try.ntmps24
  go_wp2_with fail
  go_ret
  exact ⟨rfl, rfl⟩
theorem magnitude_any (n : Int) (h : I64 n) (w : World) : Calls Try.prog 30 #[.int .i64 n] w fun e w' => e = .returned (.int .u64 (n.natAbs : Nat)) ∧ w = w' := by
  obtain ⟨h0, h1⟩ := h
  by_cases hn : n < 0
  · rw [show ((n.natAbs : Nat) : Int) = -n from by omega]
    go_enter Try.func30, Try.ntmps30
    go_wp2_with fail
    go_ret
    exact ⟨ret_int (show -(n + 1) + 1 = -n by omega), rfl⟩
  · rw [show ((n.natAbs : Nat) : Int) = n from by omega]
    go_enter Try.func30, Try.ntmps30
    go_wp2_with fail
    go_ret
    exact ⟨rfl, rfl⟩
end Go.Proofs.Ytjnmikncgglfmaa
