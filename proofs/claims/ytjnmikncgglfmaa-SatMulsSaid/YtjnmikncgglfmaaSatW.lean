/- The walks of the eight laws of sat. -/
import Derived.Test.YtjnmikncgglfmaaSatB
namespace Go.Proofs.Ytjnmikncgglfmaa
open Go.RowKit SatPlain

theorem I64.of {n : Int} (h0 : 0 ≤ n) (h1 : n ≤ 4611686018427387904) : I64 n := ⟨by omega, by omega⟩
theorem I64.lit {n : Int} (h : 0 ≤ n ∧ n ≤ 4611686018427387904) : I64 n := .of h.1 h.2
theorem I64.mn {a b : Int} (ha : I64 a) (hb : I64 b) : I64 (min a b) := ⟨by have := ha.1; have := hb.1; omega, by have := ha.2; omega⟩
theorem undo {x y : Int} (hx : 0 ≤ x) (hy : 0 ≤ y) (h : clip (x + y) < 4611686018427387904) : clip (clip (x + y) - x) = y := by
  have : x + y < 4611686018427387904 := by unfold clip at h; split at h <;> (try split at h) <;> omega
  rw [clip_of (n := x + y) (by omega) (by omega), clip_of (by omega) (by omega)]; omega
theorem I64.mx {a b : Int} (ha : I64 a) (hb : I64 b) : I64 (max a b) := ⟨by have := ha.1; omega, by have := ha.2; have := hb.2; omega⟩

set_option maxHeartbeats 1000000 in
theorem adds_walk (a : Int) (b : Int) (ha : I64 a) (hb : I64 b) : Gives 3 #[.int .i64 a, .int .i64 b] (.bool true) := by
  have AW := Lib.hid g_awake
  have k1 := Lib.hid (g_pClip (a))
  have k2 := Lib.hid (g_rClip (a))
  have k3 := Lib.hid (g_pAdd (a) (b) ha hb)
  have k4 := Lib.hid (g_rAdd (a) (b) ha hb)
  have k5 := Lib.hid (g_pSub (a) (b) ha hb)
  have k6 := Lib.hid (g_rSub (a) (b) ha hb)
  generalize clip a = x1 at *
  generalize clip (a + b) = x2 at *
  generalize clip (a - b) = x3 at *
  clear ha hb
  intro w
  have B := Lib.hid (Below.refl w.heap.size w)
  go_enter Try.func3, Try.ntmps3
  go_wp2_with fail
  refine (k1.out _).mono ?_
  rintro e w1 ⟨rfl, b1⟩
  replace B := Lib.hid (bel B.out b1); clear b1
  go_wp2_with fail
  refine (k2.out _).mono ?_
  rintro e w1 ⟨rfl, b1⟩
  replace B := Lib.hid (bel B.out b1); clear b1
  go_wp2_with fail
  refine (k3.out _).mono ?_
  rintro e w1 ⟨rfl, b1⟩
  replace B := Lib.hid (bel B.out b1); clear b1
  go_wp2_with fail
  refine (k4.out _).mono ?_
  rintro e w1 ⟨rfl, b1⟩
  replace B := Lib.hid (bel B.out b1); clear b1
  go_wp2_with fail
  refine (k5.out _).mono ?_
  rintro e w1 ⟨rfl, b1⟩
  replace B := Lib.hid (bel B.out b1); clear b1
  go_wp2_with fail
  refine (k6.out _).mono ?_
  rintro e w1 ⟨rfl, b1⟩
  replace B := Lib.hid (bel B.out b1); clear b1
  go_wp2_with fail
  refine (AW.out _).mono ?_
  rintro e w1 ⟨rfl, b1⟩
  replace B := Lib.hid (bel B.out b1); clear b1
  go_wp2_with fail
  go_ret
  exact ⟨rfl, B.out⟩
set_option maxHeartbeats 1000000 in
theorem muls_walk (a : Int) (b : Int) (c : Int) (ha : I64 a) (hb : I64 b) (hc : I64 c) : Gives 4 #[.int .i64 a, .int .i64 b, .int .i64 c] (.bool true) := by
  have AW := Lib.hid g_awake
  have k1 := Lib.hid (g_pMul (a) (b) ha hb)
  have k2 := Lib.hid (g_rMul (a) (b) ha hb)
  have k3 := Lib.hid (g_pScale (a) (b) (c) ha hb hc)
  have k4 := Lib.hid (g_rScale (a) (b) (c) ha hb hc)
  have k5 := Lib.hid (g_pUnits (a) (b) ha hb)
  have k6 := Lib.hid (g_rUnits (a) (b) ha hb)
  generalize clip (a * b) = x1 at *
  generalize scale a b c = x2 at *
  generalize units a b = x3 at *
  clear ha hb hc
  intro w
  have B := Lib.hid (Below.refl w.heap.size w)
  go_enter Try.func4, Try.ntmps4
  go_wp2_with fail
  refine (k1.out _).mono ?_
  rintro e w1 ⟨rfl, b1⟩
  replace B := Lib.hid (bel B.out b1); clear b1
  go_wp2_with fail
  refine (k2.out _).mono ?_
  rintro e w1 ⟨rfl, b1⟩
  replace B := Lib.hid (bel B.out b1); clear b1
  go_wp2_with fail
  refine (k3.out _).mono ?_
  rintro e w1 ⟨rfl, b1⟩
  replace B := Lib.hid (bel B.out b1); clear b1
  go_wp2_with fail
  refine (k4.out _).mono ?_
  rintro e w1 ⟨rfl, b1⟩
  replace B := Lib.hid (bel B.out b1); clear b1
  go_wp2_with fail
  refine (k5.out _).mono ?_
  rintro e w1 ⟨rfl, b1⟩
  replace B := Lib.hid (bel B.out b1); clear b1
  go_wp2_with fail
  refine (k6.out _).mono ?_
  rintro e w1 ⟨rfl, b1⟩
  replace B := Lib.hid (bel B.out b1); clear b1
  go_wp2_with fail
  refine (AW.out _).mono ?_
  rintro e w1 ⟨rfl, b1⟩
  replace B := Lib.hid (bel B.out b1); clear b1
  go_wp2_with fail
  go_ret
  exact ⟨rfl, B.out⟩
set_option maxHeartbeats 1000000 in
theorem counts_walk (a : Int) (b : Int) (c : Int) (ha : I64 a) (hb : I64 b) (hc : I64 c) : Gives 5 #[.int .i64 a, .int .i64 b, .int .i64 c] (.bool true) := by
  have AW := Lib.hid g_awake
  have k1 := Lib.hid (g_pClip (a))
  have k3 := Lib.hid (g_pAdd (a) (b) ha hb)
  have k5 := Lib.hid (g_pSub (a) (b) ha hb)
  have k7 := Lib.hid (g_pMul (a) (b) ha hb)
  have k9 := Lib.hid (g_pScale (a) (b) (c) ha hb hc)
  have k11 := Lib.hid (g_pUnits (a) (b) ha hb)
  have k2 := Lib.hid (g_is (clip a) (clip_lo _) (clip_hi _))
  have k4 := Lib.hid (g_is (clip (a + b)) (clip_lo _) (clip_hi _))
  have k6 := Lib.hid (g_is (clip (a - b)) (clip_lo _) (clip_hi _))
  have k8 := Lib.hid (g_is (clip (a * b)) (clip_lo _) (clip_hi _))
  have k10 := Lib.hid (g_is (scale a b c) (scale_lo _ _ _) (scale_hi _ _ _))
  have k12 := Lib.hid (g_is (units a b) (units_lo _ _) (units_hi _ _))
  generalize clip a = x1 at *
  generalize clip (a + b) = x2 at *
  generalize clip (a - b) = x3 at *
  generalize clip (a * b) = x4 at *
  generalize scale a b c = x5 at *
  generalize units a b = x6 at *
  clear ha hb hc
  intro w
  have B := Lib.hid (Below.refl w.heap.size w)
  go_enter Try.func5, Try.ntmps5
  go_wp2_with fail
  refine (k1.out _).mono ?_
  rintro e w1 ⟨rfl, b1⟩
  replace B := Lib.hid (bel B.out b1); clear b1
  go_wp2_with fail
  refine (k2.out _).mono ?_
  rintro e w1 ⟨rfl, b1⟩
  replace B := Lib.hid (bel B.out b1); clear b1
  go_wp2_with fail
  refine (k3.out _).mono ?_
  rintro e w1 ⟨rfl, b1⟩
  replace B := Lib.hid (bel B.out b1); clear b1
  go_wp2_with fail
  refine (k4.out _).mono ?_
  rintro e w1 ⟨rfl, b1⟩
  replace B := Lib.hid (bel B.out b1); clear b1
  go_wp2_with fail
  refine (k5.out _).mono ?_
  rintro e w1 ⟨rfl, b1⟩
  replace B := Lib.hid (bel B.out b1); clear b1
  go_wp2_with fail
  refine (k6.out _).mono ?_
  rintro e w1 ⟨rfl, b1⟩
  replace B := Lib.hid (bel B.out b1); clear b1
  go_wp2_with fail
  refine (k7.out _).mono ?_
  rintro e w1 ⟨rfl, b1⟩
  replace B := Lib.hid (bel B.out b1); clear b1
  go_wp2_with fail
  refine (k8.out _).mono ?_
  rintro e w1 ⟨rfl, b1⟩
  replace B := Lib.hid (bel B.out b1); clear b1
  go_wp2_with fail
  refine (k9.out _).mono ?_
  rintro e w1 ⟨rfl, b1⟩
  replace B := Lib.hid (bel B.out b1); clear b1
  go_wp2_with fail
  refine (k10.out _).mono ?_
  rintro e w1 ⟨rfl, b1⟩
  replace B := Lib.hid (bel B.out b1); clear b1
  go_wp2_with fail
  refine (k11.out _).mono ?_
  rintro e w1 ⟨rfl, b1⟩
  replace B := Lib.hid (bel B.out b1); clear b1
  go_wp2_with fail
  refine (k12.out _).mono ?_
  rintro e w1 ⟨rfl, b1⟩
  replace B := Lib.hid (bel B.out b1); clear b1
  go_wp2_with fail
  refine (AW.out _).mono ?_
  rintro e w1 ⟨rfl, b1⟩
  replace B := Lib.hid (bel B.out b1); clear b1
  go_wp2_with fail
  go_ret
  exact ⟨rfl, B.out⟩
set_option maxHeartbeats 1000000 in
theorem rises_walk (a : Int) (b : Int) (c : Int) (_ha : I64 a) (_hb : I64 b) (_hc : I64 c) : Gives 6 #[.int .i64 a, .int .i64 b, .int .i64 c] (.bool true) := by
  have AW := Lib.hid g_awake
  have k1 := Lib.hid (g_pClip (min a b))
  have k2 := Lib.hid (g_pClip (max a b))
  have k3 := Lib.hid (g_pClip (c))
  have hle : clip (min a b) ≤ clip (max a b) := clip_mono (by omega)
  have x0 := clip_lo (min a b)
  have x1 := clip_hi (min a b)
  have y0 := clip_lo (max a b)
  have y1 := clip_hi (max a b)
  have z0 := clip_lo (c)
  have z1 := clip_hi (c)
  generalize clip (min a b) = x at *
  generalize clip (max a b) = y at *
  generalize clip c = z at *
  have hx := I64.of x0 x1
  have hy := I64.of y0 y1
  have hz := I64.of z0 z1
  obtain ⟨r1, r2, r3, r4, r5⟩ := rises x y z z0 hle
  have s1 := Lib.hid (g_pAdd (x) (z) hx hz)
  have s2 := Lib.hid (g_pAdd (y) (z) hy hz)
  have s3 := Lib.hid (g_pMul (x) (z) hx hz)
  have s4 := Lib.hid (g_pMul (y) (z) hy hz)
  have s5 := Lib.hid (g_pSub (x) (z) hx hz)
  have s6 := Lib.hid (g_pSub (y) (z) hy hz)
  have s7 := Lib.hid (g_pSub (z) (x) hz hx)
  have s8 := Lib.hid (g_pSub (z) (y) hz hy)
  have s9 := Lib.hid (g_pScale (x) (z) (7) hx hz (.lit (by decide)))
  have s10 := Lib.hid (g_pScale (y) (z) (7) hy hz (.lit (by decide)))
  generalize clip (x + z) = p1 at *
  generalize clip (y + z) = p2 at *
  generalize clip (x * z) = p3 at *
  generalize clip (y * z) = p4 at *
  generalize clip (x - z) = p5 at *
  generalize clip (y - z) = p6 at *
  generalize clip (z - x) = p7 at *
  generalize clip (z - y) = p8 at *
  generalize scale x z 7 = p9 at *
  generalize scale y z 7 = p10 at *
  clear hx hy hz _ha _hb _hc x0 x1 y0 y1 z0 z1 hle
  intro w
  have B := Lib.hid (Below.refl w.heap.size w)
  go_enter Try.func6, Try.ntmps6
  go_wp2_with fail
  refine (k1.out _).mono ?_
  rintro e w1 ⟨rfl, b1⟩
  replace B := Lib.hid (bel B.out b1); clear b1
  go_wp2_with fail
  refine (k2.out _).mono ?_
  rintro e w1 ⟨rfl, b1⟩
  replace B := Lib.hid (bel B.out b1); clear b1
  go_wp2_with fail
  refine (k3.out _).mono ?_
  rintro e w1 ⟨rfl, b1⟩
  replace B := Lib.hid (bel B.out b1); clear b1
  go_wp2_with fail
  refine (s1.out _).mono ?_
  rintro e w1 ⟨rfl, b1⟩
  replace B := Lib.hid (bel B.out b1); clear b1
  go_wp2_with fail
  refine (s2.out _).mono ?_
  rintro e w1 ⟨rfl, b1⟩
  replace B := Lib.hid (bel B.out b1); clear b1
  go_wp2_with fail
  refine (s3.out _).mono ?_
  rintro e w1 ⟨rfl, b1⟩
  replace B := Lib.hid (bel B.out b1); clear b1
  go_wp2_with fail
  refine (s4.out _).mono ?_
  rintro e w1 ⟨rfl, b1⟩
  replace B := Lib.hid (bel B.out b1); clear b1
  go_wp2_with fail
  refine (s5.out _).mono ?_
  rintro e w1 ⟨rfl, b1⟩
  replace B := Lib.hid (bel B.out b1); clear b1
  go_wp2_with fail
  refine (s6.out _).mono ?_
  rintro e w1 ⟨rfl, b1⟩
  replace B := Lib.hid (bel B.out b1); clear b1
  go_wp2_with fail
  refine (s7.out _).mono ?_
  rintro e w1 ⟨rfl, b1⟩
  replace B := Lib.hid (bel B.out b1); clear b1
  go_wp2_with fail
  refine (s8.out _).mono ?_
  rintro e w1 ⟨rfl, b1⟩
  replace B := Lib.hid (bel B.out b1); clear b1
  go_wp2_with fail
  refine (s9.out _).mono ?_
  rintro e w1 ⟨rfl, b1⟩
  replace B := Lib.hid (bel B.out b1); clear b1
  go_wp2_with fail
  refine (s10.out _).mono ?_
  rintro e w1 ⟨rfl, b1⟩
  replace B := Lib.hid (bel B.out b1); clear b1
  go_wp2_with fail
  refine (AW.out _).mono ?_
  rintro e w1 ⟨rfl, b1⟩
  replace B := Lib.hid (bel B.out b1); clear b1
  go_wp2_with fail
  go_ret
  exact ⟨rfl, B.out⟩
set_option maxHeartbeats 1000000 in
theorem three_walk (a : Int) (b : Int) (c : Int) (_ha : I64 a) (_hb : I64 b) (_hc : I64 c) : Gives 8 #[.int .i64 a, .int .i64 b, .int .i64 c] (.bool true) := by
  have AW := Lib.hid g_awake
  have k1 := Lib.hid (g_pClip (a))
  have k2 := Lib.hid (g_pClip (b))
  have k3 := Lib.hid (g_pClip (c))
  have x0 := clip_lo (a)
  have x1 := clip_hi (a)
  have y0 := clip_lo (b)
  have y1 := clip_hi (b)
  have z0 := clip_lo (c)
  have z1 := clip_hi (c)
  generalize clip a = x at *
  generalize clip b = y at *
  generalize clip c = z at *
  have hx := I64.of x0 x1
  have hy := I64.of y0 y1
  have hz := I64.of z0 z1
  have e1 := add_assoc' x0 y0 z0
  have e2 := mul_assoc' x0 y0 z0
  have e3 := sub_sub' x1 y0 z0
  have s1 := Lib.hid (g_pAdd (x) (y) hx hy)
  have s2 := Lib.hid (g_pAdd (clip (x + y)) z (.clip _) hz)
  have s3 := Lib.hid (g_pAdd (y) (z) hy hz)
  have s4 := Lib.hid (g_pAdd x (clip (y + z)) hx (.clip _))
  have s5 := Lib.hid (g_pMul (x) (y) hx hy)
  have s6 := Lib.hid (g_pMul (clip (x * y)) z (.clip _) hz)
  have s7 := Lib.hid (g_pMul (y) (z) hy hz)
  have s8 := Lib.hid (g_pMul x (clip (y * z)) hx (.clip _))
  have s9 := Lib.hid (g_pSub (x) (y) hx hy)
  have s10 := Lib.hid (g_pSub (clip (x - y)) z (.clip _) hz)
  have s12 := Lib.hid (g_pSub x (clip (y + z)) hx (.clip _))
  rw [e1] at s2
  rw [e2] at s6
  rw [e3] at s10
  generalize clip (x + clip (y + z)) = q1 at *
  generalize clip (x * clip (y * z)) = q2 at *
  generalize clip (x - clip (y + z)) = q3 at *
  generalize clip (x + y) = p1 at *
  generalize clip (y + z) = p2 at *
  generalize clip (x * y) = p3 at *
  generalize clip (y * z) = p4 at *
  generalize clip (x - y) = p5 at *
  clear hx hy hz _ha _hb _hc x0 x1 y0 y1 z0 z1 e1 e2 e3
  intro w
  have B := Lib.hid (Below.refl w.heap.size w)
  go_enter Try.func8, Try.ntmps8
  go_wp2_with fail
  refine (k1.out _).mono ?_
  rintro e w1 ⟨rfl, b1⟩
  replace B := Lib.hid (bel B.out b1); clear b1
  go_wp2_with fail
  refine (k2.out _).mono ?_
  rintro e w1 ⟨rfl, b1⟩
  replace B := Lib.hid (bel B.out b1); clear b1
  go_wp2_with fail
  refine (k3.out _).mono ?_
  rintro e w1 ⟨rfl, b1⟩
  replace B := Lib.hid (bel B.out b1); clear b1
  go_wp2_with fail
  refine (s1.out _).mono ?_
  rintro e w1 ⟨rfl, b1⟩
  replace B := Lib.hid (bel B.out b1); clear b1
  go_wp2_with fail
  refine (s2.out _).mono ?_
  rintro e w1 ⟨rfl, b1⟩
  replace B := Lib.hid (bel B.out b1); clear b1
  go_wp2_with fail
  refine (s3.out _).mono ?_
  rintro e w1 ⟨rfl, b1⟩
  replace B := Lib.hid (bel B.out b1); clear b1
  go_wp2_with fail
  refine (s4.out _).mono ?_
  rintro e w1 ⟨rfl, b1⟩
  replace B := Lib.hid (bel B.out b1); clear b1
  go_wp2_with fail
  refine (s5.out _).mono ?_
  rintro e w1 ⟨rfl, b1⟩
  replace B := Lib.hid (bel B.out b1); clear b1
  go_wp2_with fail
  refine (s6.out _).mono ?_
  rintro e w1 ⟨rfl, b1⟩
  replace B := Lib.hid (bel B.out b1); clear b1
  go_wp2_with fail
  refine (s7.out _).mono ?_
  rintro e w1 ⟨rfl, b1⟩
  replace B := Lib.hid (bel B.out b1); clear b1
  go_wp2_with fail
  refine (s8.out _).mono ?_
  rintro e w1 ⟨rfl, b1⟩
  replace B := Lib.hid (bel B.out b1); clear b1
  go_wp2_with fail
  refine (s9.out _).mono ?_
  rintro e w1 ⟨rfl, b1⟩
  replace B := Lib.hid (bel B.out b1); clear b1
  go_wp2_with fail
  refine (s10.out _).mono ?_
  rintro e w1 ⟨rfl, b1⟩
  replace B := Lib.hid (bel B.out b1); clear b1
  go_wp2_with fail
  refine (s3.out _).mono ?_
  rintro e w1 ⟨rfl, b1⟩
  replace B := Lib.hid (bel B.out b1); clear b1
  go_wp2_with fail
  refine (s12.out _).mono ?_
  rintro e w1 ⟨rfl, b1⟩
  replace B := Lib.hid (bel B.out b1); clear b1
  go_wp2_with fail
  refine (AW.out _).mono ?_
  rintro e w1 ⟨rfl, b1⟩
  replace B := Lib.hid (bel B.out b1); clear b1
  go_wp2_with fail
  go_ret
  exact ⟨rfl, B.out⟩
set_option maxHeartbeats 1000000 in
theorem turns_walk (a : Int) (b : Int) (_ha : I64 a) (_hb : I64 b) : Gives 7 #[.int .i64 a, .int .i64 b] (.bool true) := by
  have AW := Lib.hid g_awake
  have k1 := Lib.hid (g_pClip (a))
  have k2 := Lib.hid (g_pClip (b))
  have x0 := clip_lo (a)
  have x1 := clip_hi (a)
  have y0 := clip_lo (b)
  have y1 := clip_hi (b)
  generalize clip a = x at *
  generalize clip b = y at *
  have hx := I64.of x0 x1
  have hy := I64.of y0 y1
  have hu : I64 (max y 1) := I64.of (by omega) (by omega)
  have hsc : I64 (scale x 1 (max y 1)) := .of (scale_lo _ _ _) (scale_hi _ _ _)
  have hun : I64 (units x (max y 1)) := .of (units_lo _ _) (units_hi _ _)
  obtain ⟨f1, f2, f3⟩ := units_scale (u := max y 1) x0 x1 (by omega)
  have j0 := scale_lo x 1 (max y 1)
  have j1 := scale_hi x 1 (max y 1)
  have f4 := undo x0 y0
  have f5 := clip_hi (x + y)
  have s1 := Lib.hid (g_pAdd (x) (y) hx hy)
  have s2 := Lib.hid (g_pAdd (y) (x) hy hx)
  have s3 := Lib.hid (g_pMul (x) (y) hx hy)
  have s4 := Lib.hid (g_pMul (y) (x) hy hx)
  have s5 := Lib.hid (g_pSub (clip (x + y)) x (.clip _) hx)
  have s6 := Lib.hid (g_pUnits x (max y 1) hx hu)
  have s7 := Lib.hid (g_pScale x 1 (max y 1) hx (.lit (by decide)) hu)
  have s8 := Lib.hid (g_pMul (scale x 1 (max y 1)) (max y 1) hsc hu)
  have s9 := Lib.hid (g_pMul (units x (max y 1)) (max y 1) hun hu)
  rw [Int.add_comm y x] at s2
  rw [Int.mul_comm y x] at s4
  generalize clip (clip (x + y) - x) = d at *
  generalize clip (x + y) = s at *
  generalize clip (x * y) = p at *
  generalize clip (scale x 1 (max y 1) * max y 1) = p1 at *
  generalize clip (units x (max y 1) * max y 1) = p2 at *
  generalize scale x 1 (max y 1) = m at *
  generalize units x (max y 1) = n at *
  clear hx hy hu hsc hun _ha _hb
  by_cases hs : s < 4611686018427387904
  · obtain rfl := f4 hs
    clear f4
    rcases f1 with rfl | rfl
    · intro w
      have B := Lib.hid (Below.refl w.heap.size w)
      go_enter Try.func7, Try.ntmps7
      go_wp2_with fail
      refine (k1.out _).mono ?_
      rintro e w1 ⟨rfl, b1⟩
      replace B := Lib.hid (bel B.out b1); clear b1
      go_wp2_with fail
      refine (k2.out _).mono ?_
      rintro e w1 ⟨rfl, b1⟩
      replace B := Lib.hid (bel B.out b1); clear b1
      go_wp2_with fail
      refine (s1.out _).mono ?_
      rintro e w1 ⟨rfl, b1⟩
      replace B := Lib.hid (bel B.out b1); clear b1
      go_wp2_with fail
      refine (s2.out _).mono ?_
      rintro e w1 ⟨rfl, b1⟩
      replace B := Lib.hid (bel B.out b1); clear b1
      go_wp2_with fail
      refine (s3.out _).mono ?_
      rintro e w1 ⟨rfl, b1⟩
      replace B := Lib.hid (bel B.out b1); clear b1
      go_wp2_with fail
      refine (s4.out _).mono ?_
      rintro e w1 ⟨rfl, b1⟩
      replace B := Lib.hid (bel B.out b1); clear b1
      go_wp2_with fail
      refine (s5.out _).mono ?_
      rintro e w1 ⟨rfl, b1⟩
      replace B := Lib.hid (bel B.out b1); clear b1
      go_wp2_with fail
      refine (s6.out _).mono ?_
      rintro e w1 ⟨rfl, b1⟩
      replace B := Lib.hid (bel B.out b1); clear b1
      go_wp2_with fail
      refine (s7.out _).mono ?_
      rintro e w1 ⟨rfl, b1⟩
      replace B := Lib.hid (bel B.out b1); clear b1
      go_wp2_with fail
      refine (s8.out _).mono ?_
      rintro e w1 ⟨rfl, b1⟩
      replace B := Lib.hid (bel B.out b1); clear b1
      go_wp2_with fail
      refine (s9.out _).mono ?_
      rintro e w1 ⟨rfl, b1⟩
      replace B := Lib.hid (bel B.out b1); clear b1
      go_wp2_with fail
      refine (AW.out _).mono ?_
      rintro e w1 ⟨rfl, b1⟩
      replace B := Lib.hid (bel B.out b1); clear b1
      go_wp2_with fail
      go_ret
      exact ⟨rfl, B.out⟩
    · have ne : (m + 1 == m) = false := by rw [beq_eq_false_iff_ne]; omega
      intro w
      have B := Lib.hid (Below.refl w.heap.size w)
      go_enter Try.func7, Try.ntmps7
      go_wp2_with fail
      refine (k1.out _).mono ?_
      rintro e w1 ⟨rfl, b1⟩
      replace B := Lib.hid (bel B.out b1); clear b1
      go_wp2_with fail
      refine (k2.out _).mono ?_
      rintro e w1 ⟨rfl, b1⟩
      replace B := Lib.hid (bel B.out b1); clear b1
      go_wp2_with fail
      refine (s1.out _).mono ?_
      rintro e w1 ⟨rfl, b1⟩
      replace B := Lib.hid (bel B.out b1); clear b1
      go_wp2_with fail
      refine (s2.out _).mono ?_
      rintro e w1 ⟨rfl, b1⟩
      replace B := Lib.hid (bel B.out b1); clear b1
      go_wp2_with fail
      refine (s3.out _).mono ?_
      rintro e w1 ⟨rfl, b1⟩
      replace B := Lib.hid (bel B.out b1); clear b1
      go_wp2_with fail
      refine (s4.out _).mono ?_
      rintro e w1 ⟨rfl, b1⟩
      replace B := Lib.hid (bel B.out b1); clear b1
      go_wp2_with fail
      refine (s5.out _).mono ?_
      rintro e w1 ⟨rfl, b1⟩
      replace B := Lib.hid (bel B.out b1); clear b1
      go_wp2_with fail
      refine (s6.out _).mono ?_
      rintro e w1 ⟨rfl, b1⟩
      replace B := Lib.hid (bel B.out b1); clear b1
      go_wp2_with fail
      refine (s7.out _).mono ?_
      rintro e w1 ⟨rfl, b1⟩
      replace B := Lib.hid (bel B.out b1); clear b1
      go_wp2_with fail
      refine (s8.out _).mono ?_
      rintro e w1 ⟨rfl, b1⟩
      replace B := Lib.hid (bel B.out b1); clear b1
      go_wp2_with fail
      refine (s9.out _).mono ?_
      rintro e w1 ⟨rfl, b1⟩
      replace B := Lib.hid (bel B.out b1); clear b1
      go_wp2_with fail
      refine (AW.out _).mono ?_
      rintro e w1 ⟨rfl, b1⟩
      replace B := Lib.hid (bel B.out b1); clear b1
      go_wp2_with fail
      go_ret
      exact ⟨rfl, B.out⟩
  · clear f4
    rcases f1 with rfl | rfl
    · intro w
      have B := Lib.hid (Below.refl w.heap.size w)
      go_enter Try.func7, Try.ntmps7
      go_wp2_with fail
      refine (k1.out _).mono ?_
      rintro e w1 ⟨rfl, b1⟩
      replace B := Lib.hid (bel B.out b1); clear b1
      go_wp2_with fail
      refine (k2.out _).mono ?_
      rintro e w1 ⟨rfl, b1⟩
      replace B := Lib.hid (bel B.out b1); clear b1
      go_wp2_with fail
      refine (s1.out _).mono ?_
      rintro e w1 ⟨rfl, b1⟩
      replace B := Lib.hid (bel B.out b1); clear b1
      go_wp2_with fail
      refine (s2.out _).mono ?_
      rintro e w1 ⟨rfl, b1⟩
      replace B := Lib.hid (bel B.out b1); clear b1
      go_wp2_with fail
      refine (s3.out _).mono ?_
      rintro e w1 ⟨rfl, b1⟩
      replace B := Lib.hid (bel B.out b1); clear b1
      go_wp2_with fail
      refine (s4.out _).mono ?_
      rintro e w1 ⟨rfl, b1⟩
      replace B := Lib.hid (bel B.out b1); clear b1
      go_wp2_with fail
      refine (s6.out _).mono ?_
      rintro e w1 ⟨rfl, b1⟩
      replace B := Lib.hid (bel B.out b1); clear b1
      go_wp2_with fail
      refine (s7.out _).mono ?_
      rintro e w1 ⟨rfl, b1⟩
      replace B := Lib.hid (bel B.out b1); clear b1
      go_wp2_with fail
      refine (s8.out _).mono ?_
      rintro e w1 ⟨rfl, b1⟩
      replace B := Lib.hid (bel B.out b1); clear b1
      go_wp2_with fail
      refine (s9.out _).mono ?_
      rintro e w1 ⟨rfl, b1⟩
      replace B := Lib.hid (bel B.out b1); clear b1
      go_wp2_with fail
      refine (AW.out _).mono ?_
      rintro e w1 ⟨rfl, b1⟩
      replace B := Lib.hid (bel B.out b1); clear b1
      go_wp2_with fail
      go_ret
      exact ⟨rfl, B.out⟩
    · have ne : (m + 1 == m) = false := by rw [beq_eq_false_iff_ne]; omega
      intro w
      have B := Lib.hid (Below.refl w.heap.size w)
      go_enter Try.func7, Try.ntmps7
      go_wp2_with fail
      refine (k1.out _).mono ?_
      rintro e w1 ⟨rfl, b1⟩
      replace B := Lib.hid (bel B.out b1); clear b1
      go_wp2_with fail
      refine (k2.out _).mono ?_
      rintro e w1 ⟨rfl, b1⟩
      replace B := Lib.hid (bel B.out b1); clear b1
      go_wp2_with fail
      refine (s1.out _).mono ?_
      rintro e w1 ⟨rfl, b1⟩
      replace B := Lib.hid (bel B.out b1); clear b1
      go_wp2_with fail
      refine (s2.out _).mono ?_
      rintro e w1 ⟨rfl, b1⟩
      replace B := Lib.hid (bel B.out b1); clear b1
      go_wp2_with fail
      refine (s3.out _).mono ?_
      rintro e w1 ⟨rfl, b1⟩
      replace B := Lib.hid (bel B.out b1); clear b1
      go_wp2_with fail
      refine (s4.out _).mono ?_
      rintro e w1 ⟨rfl, b1⟩
      replace B := Lib.hid (bel B.out b1); clear b1
      go_wp2_with fail
      refine (s6.out _).mono ?_
      rintro e w1 ⟨rfl, b1⟩
      replace B := Lib.hid (bel B.out b1); clear b1
      go_wp2_with fail
      refine (s7.out _).mono ?_
      rintro e w1 ⟨rfl, b1⟩
      replace B := Lib.hid (bel B.out b1); clear b1
      go_wp2_with fail
      refine (s8.out _).mono ?_
      rintro e w1 ⟨rfl, b1⟩
      replace B := Lib.hid (bel B.out b1); clear b1
      go_wp2_with fail
      refine (s9.out _).mono ?_
      rintro e w1 ⟨rfl, b1⟩
      replace B := Lib.hid (bel B.out b1); clear b1
      go_wp2_with fail
      refine (AW.out _).mono ?_
      rintro e w1 ⟨rfl, b1⟩
      replace B := Lib.hid (bel B.out b1); clear b1
      go_wp2_with fail
      go_ret
      exact ⟨rfl, B.out⟩
set_option maxHeartbeats 1000000 in
theorem unitsOf_walk (a : Int) (b : Int) (c : Int) (_ha : I64 a) (_hb : I64 b) (_hc : I64 c) : Gives 9 #[.int .i64 a, .int .i64 b, .int .i64 c] (.bool true) := by
  have AW := Lib.hid g_awake
  have k1 := Lib.hid (g_pClip (a))
  have k2 := Lib.hid (g_pClip (b))
  have k3 := Lib.hid (g_pClip (c))
  have x0 := clip_lo (a)
  have x1 := clip_hi (a)
  have y0 := clip_lo (b)
  have y1 := clip_hi (b)
  have z0 := clip_lo (c)
  have z1 := clip_hi (c)
  generalize clip a = x at *
  generalize clip b = y at *
  generalize clip c = z at *
  have hx := I64.of x0 x1
  have hy := I64.of y0 y1
  have hu : I64 (max z 1) := I64.of (by omega) (by omega)
  clear _ha _hb _hc
  by_cases hov : 4611686018427387904 - y < x
  · clear hx hy hu
    intro w
    have B := Lib.hid (Below.refl w.heap.size w)
    go_enter Try.func9, Try.ntmps9
    go_wp2_with fail
    refine (k1.out _).mono ?_
    rintro e w1 ⟨rfl, b1⟩
    replace B := Lib.hid (bel B.out b1); clear b1
    go_wp2_with fail
    refine (k2.out _).mono ?_
    rintro e w1 ⟨rfl, b1⟩
    replace B := Lib.hid (bel B.out b1); clear b1
    go_wp2_with fail
    refine (k3.out _).mono ?_
    rintro e w1 ⟨rfl, b1⟩
    replace B := Lib.hid (bel B.out b1); clear b1
    go_wp2_with fail
    refine (AW.out _).mono ?_
    rintro e w1 ⟨rfl, b1⟩
    replace B := Lib.hid (bel B.out b1); clear b1
    go_wp2_with fail
    go_ret
    exact ⟨rfl, B.out⟩
  · have f1 := units_of (u := max z 1) x0 y0 (by omega) (by omega)
    have s1 := Lib.hid (g_pUnits x (max z 1) hx hu)
    have s2 := Lib.hid (g_pUnits y (max z 1) hy hu)
    have s3 := Lib.hid (g_pUnits (x + y) (max z 1) (.of (by omega) (by omega)) hu)
    have i0 := units_lo x (max z 1)
    have i1 := units_hi x (max z 1)
    have j0 := units_lo y (max z 1)
    have j1 := units_hi y (max z 1)
    have l0 := units_lo (x + y) (max z 1)
    have l1 := units_hi (x + y) (max z 1)
    generalize units x (max z 1) = n1 at *
    generalize units y (max z 1) = n2 at *
    generalize units (x + y) (max z 1) = m at *
    clear hx hy hu
    rcases f1 with f1 | f1
    · have q1 : (n1 + n2 == m) = true := by rw [beq_iff_eq]; exact f1
      have q2 : (n1 + n2 == m + 1) = false := by rw [beq_eq_false_iff_ne]; omega
      have r1 : n1 + n2 ≤ 4611686018427387905 := by omega
      intro w
      have B := Lib.hid (Below.refl w.heap.size w)
      go_enter Try.func9, Try.ntmps9
      go_wp2_with fail
      refine (k1.out _).mono ?_
      rintro e w1 ⟨rfl, b1⟩
      replace B := Lib.hid (bel B.out b1); clear b1
      go_wp2_with fail
      refine (k2.out _).mono ?_
      rintro e w1 ⟨rfl, b1⟩
      replace B := Lib.hid (bel B.out b1); clear b1
      go_wp2_with fail
      refine (k3.out _).mono ?_
      rintro e w1 ⟨rfl, b1⟩
      replace B := Lib.hid (bel B.out b1); clear b1
      go_wp2_with fail
      refine (s1.out _).mono ?_
      rintro e w1 ⟨rfl, b1⟩
      replace B := Lib.hid (bel B.out b1); clear b1
      go_wp2_with fail
      refine (s2.out _).mono ?_
      rintro e w1 ⟨rfl, b1⟩
      replace B := Lib.hid (bel B.out b1); clear b1
      go_wp2_with fail
      refine (s3.out _).mono ?_
      rintro e w1 ⟨rfl, b1⟩
      replace B := Lib.hid (bel B.out b1); clear b1
      go_wp2_with fail
      refine (AW.out _).mono ?_
      rintro e w1 ⟨rfl, b1⟩
      replace B := Lib.hid (bel B.out b1); clear b1
      go_wp2_with fail
      go_ret
      exact ⟨rfl, B.out⟩
    · have q1 : (n1 + n2 == m) = false := by rw [beq_eq_false_iff_ne]; omega
      have q2 : (n1 + n2 == m + 1) = true := by rw [beq_iff_eq]; exact f1
      have r1 : n1 + n2 ≤ 4611686018427387905 := by omega
      intro w
      have B := Lib.hid (Below.refl w.heap.size w)
      go_enter Try.func9, Try.ntmps9
      go_wp2_with fail
      refine (k1.out _).mono ?_
      rintro e w1 ⟨rfl, b1⟩
      replace B := Lib.hid (bel B.out b1); clear b1
      go_wp2_with fail
      refine (k2.out _).mono ?_
      rintro e w1 ⟨rfl, b1⟩
      replace B := Lib.hid (bel B.out b1); clear b1
      go_wp2_with fail
      refine (k3.out _).mono ?_
      rintro e w1 ⟨rfl, b1⟩
      replace B := Lib.hid (bel B.out b1); clear b1
      go_wp2_with fail
      refine (s1.out _).mono ?_
      rintro e w1 ⟨rfl, b1⟩
      replace B := Lib.hid (bel B.out b1); clear b1
      go_wp2_with fail
      refine (s2.out _).mono ?_
      rintro e w1 ⟨rfl, b1⟩
      replace B := Lib.hid (bel B.out b1); clear b1
      go_wp2_with fail
      refine (s3.out _).mono ?_
      rintro e w1 ⟨rfl, b1⟩
      replace B := Lib.hid (bel B.out b1); clear b1
      go_wp2_with fail
      refine (AW.out _).mono ?_
      rintro e w1 ⟨rfl, b1⟩
      replace B := Lib.hid (bel B.out b1); clear b1
      go_wp2_with fail
      go_ret
      exact ⟨rfl, B.out⟩
set_option maxHeartbeats 1000000 in
theorem same_walk (a : Int) (b : Int) (_ha : I64 a) (_hb : I64 b) : Gives 10 #[.int .i64 a, .int .i64 b] (.bool true) := by
  have AW := Lib.hid g_awake
  have k1 := Lib.hid (g_pClip (a))
  have k2 := Lib.hid (g_pClip (b))
  have x0 := clip_lo (a)
  have x1 := clip_hi (a)
  have y0 := clip_lo (b)
  have y1 := clip_hi (b)
  generalize clip a = x at *
  generalize clip b = y at *
  have hx := I64.of x0 x1
  have hy := I64.of y0 y1
  obtain ⟨f1, f2, f3⟩ := same x0 x1 y0
  have s0 := Lib.hid (g_pMul (x) (y) hx hy)
  have s1 := Lib.hid (g_pAdd (x) (0) hx (.lit (by decide)))
  have s2 := Lib.hid (g_pSub (x) (0) hx (.lit (by decide)))
  have s3 := Lib.hid (g_pSub (x) (x) hx hx)
  have s4 := Lib.hid (g_pMul (x) (1) hx (.lit (by decide)))
  have s5 := Lib.hid (g_pMul (x) (0) hx (.lit (by decide)))
  have s6 := Lib.hid (g_pScale (x) (y) (1) hx hy (.lit (by decide)))
  have s7 := Lib.hid (g_pScale (x) (y) (y) hx hy hy)
  have s8 := Lib.hid (g_pScale (clip (x * y)) 1 y (.clip _) (.lit (by decide)) hy)
  rw [Int.add_zero, clip_of x0 x1] at s1
  rw [Int.sub_zero, clip_of x0 x1] at s2
  rw [Int.sub_self, show clip 0 = 0 from by decide] at s3
  rw [Int.mul_one, clip_of x0 x1] at s4
  rw [Int.mul_zero, show clip 0 = 0 from by decide] at s5
  rw [f1] at s6
  have p0 := clip_lo (x * y)
  have p1 := clip_hi (x * y)
  clear f1
  generalize scale (clip (x * y)) 1 y = t at *
  generalize clip (x * y) = p at *
  generalize scale x y y = v at *
  clear hx hy _ha _hb
  by_cases h0 : y < 1
  · clear f2 f3
    by_cases h1 : p = 4611686018427387904
    · subst h1
      intro w
      have B := Lib.hid (Below.refl w.heap.size w)
      go_enter Try.func10, Try.ntmps10
      go_wp2_with fail
      refine (k1.out _).mono ?_
      rintro e w1 ⟨rfl, b1⟩
      replace B := Lib.hid (bel B.out b1); clear b1
      go_wp2_with fail
      refine (k2.out _).mono ?_
      rintro e w1 ⟨rfl, b1⟩
      replace B := Lib.hid (bel B.out b1); clear b1
      go_wp2_with fail
      refine (s0.out _).mono ?_
      rintro e w1 ⟨rfl, b1⟩
      replace B := Lib.hid (bel B.out b1); clear b1
      go_wp2_with fail
      refine (s1.out _).mono ?_
      rintro e w1 ⟨rfl, b1⟩
      replace B := Lib.hid (bel B.out b1); clear b1
      go_wp2_with fail
      refine (s2.out _).mono ?_
      rintro e w1 ⟨rfl, b1⟩
      replace B := Lib.hid (bel B.out b1); clear b1
      go_wp2_with fail
      refine (s3.out _).mono ?_
      rintro e w1 ⟨rfl, b1⟩
      replace B := Lib.hid (bel B.out b1); clear b1
      go_wp2_with fail
      refine (s4.out _).mono ?_
      rintro e w1 ⟨rfl, b1⟩
      replace B := Lib.hid (bel B.out b1); clear b1
      go_wp2_with fail
      refine (s5.out _).mono ?_
      rintro e w1 ⟨rfl, b1⟩
      replace B := Lib.hid (bel B.out b1); clear b1
      go_wp2_with fail
      refine (s6.out _).mono ?_
      rintro e w1 ⟨rfl, b1⟩
      replace B := Lib.hid (bel B.out b1); clear b1
      go_wp2_with fail
      refine (AW.out _).mono ?_
      rintro e w1 ⟨rfl, b1⟩
      replace B := Lib.hid (bel B.out b1); clear b1
      go_wp2_with fail
      go_ret
      exact ⟨rfl, B.out⟩
    · have n1 : (p == 4611686018427387904) = false := by rw [beq_eq_false_iff_ne]; exact h1
      clear h1
      intro w
      have B := Lib.hid (Below.refl w.heap.size w)
      go_enter Try.func10, Try.ntmps10
      go_wp2_with fail
      refine (k1.out _).mono ?_
      rintro e w1 ⟨rfl, b1⟩
      replace B := Lib.hid (bel B.out b1); clear b1
      go_wp2_with fail
      refine (k2.out _).mono ?_
      rintro e w1 ⟨rfl, b1⟩
      replace B := Lib.hid (bel B.out b1); clear b1
      go_wp2_with fail
      refine (s0.out _).mono ?_
      rintro e w1 ⟨rfl, b1⟩
      replace B := Lib.hid (bel B.out b1); clear b1
      go_wp2_with fail
      refine (s1.out _).mono ?_
      rintro e w1 ⟨rfl, b1⟩
      replace B := Lib.hid (bel B.out b1); clear b1
      go_wp2_with fail
      refine (s2.out _).mono ?_
      rintro e w1 ⟨rfl, b1⟩
      replace B := Lib.hid (bel B.out b1); clear b1
      go_wp2_with fail
      refine (s3.out _).mono ?_
      rintro e w1 ⟨rfl, b1⟩
      replace B := Lib.hid (bel B.out b1); clear b1
      go_wp2_with fail
      refine (s4.out _).mono ?_
      rintro e w1 ⟨rfl, b1⟩
      replace B := Lib.hid (bel B.out b1); clear b1
      go_wp2_with fail
      refine (s5.out _).mono ?_
      rintro e w1 ⟨rfl, b1⟩
      replace B := Lib.hid (bel B.out b1); clear b1
      go_wp2_with fail
      refine (s6.out _).mono ?_
      rintro e w1 ⟨rfl, b1⟩
      replace B := Lib.hid (bel B.out b1); clear b1
      go_wp2_with fail
      refine (AW.out _).mono ?_
      rintro e w1 ⟨rfl, b1⟩
      replace B := Lib.hid (bel B.out b1); clear b1
      go_wp2_with fail
      go_ret
      exact ⟨rfl, B.out⟩
  · obtain rfl : v = x := by rcases f2 with h | h; exact absurd h h0; exact h
    clear f2
    by_cases h1 : p = 4611686018427387904
    · subst h1
      clear f3
      intro w
      have B := Lib.hid (Below.refl w.heap.size w)
      go_enter Try.func10, Try.ntmps10
      go_wp2_with fail
      refine (k1.out _).mono ?_
      rintro e w1 ⟨rfl, b1⟩
      replace B := Lib.hid (bel B.out b1); clear b1
      go_wp2_with fail
      refine (k2.out _).mono ?_
      rintro e w1 ⟨rfl, b1⟩
      replace B := Lib.hid (bel B.out b1); clear b1
      go_wp2_with fail
      refine (s0.out _).mono ?_
      rintro e w1 ⟨rfl, b1⟩
      replace B := Lib.hid (bel B.out b1); clear b1
      go_wp2_with fail
      refine (s1.out _).mono ?_
      rintro e w1 ⟨rfl, b1⟩
      replace B := Lib.hid (bel B.out b1); clear b1
      go_wp2_with fail
      refine (s2.out _).mono ?_
      rintro e w1 ⟨rfl, b1⟩
      replace B := Lib.hid (bel B.out b1); clear b1
      go_wp2_with fail
      refine (s3.out _).mono ?_
      rintro e w1 ⟨rfl, b1⟩
      replace B := Lib.hid (bel B.out b1); clear b1
      go_wp2_with fail
      refine (s4.out _).mono ?_
      rintro e w1 ⟨rfl, b1⟩
      replace B := Lib.hid (bel B.out b1); clear b1
      go_wp2_with fail
      refine (s5.out _).mono ?_
      rintro e w1 ⟨rfl, b1⟩
      replace B := Lib.hid (bel B.out b1); clear b1
      go_wp2_with fail
      refine (s6.out _).mono ?_
      rintro e w1 ⟨rfl, b1⟩
      replace B := Lib.hid (bel B.out b1); clear b1
      go_wp2_with fail
      refine (s7.out _).mono ?_
      rintro e w1 ⟨rfl, b1⟩
      replace B := Lib.hid (bel B.out b1); clear b1
      go_wp2_with fail
      refine (AW.out _).mono ?_
      rintro e w1 ⟨rfl, b1⟩
      replace B := Lib.hid (bel B.out b1); clear b1
      go_wp2_with fail
      go_ret
      exact ⟨rfl, B.out⟩
    · have n1 : (p == 4611686018427387904) = false := by rw [beq_eq_false_iff_ne]; exact h1
      obtain rfl : t = v := by rcases f3 with h | h | h; exact absurd h h1; exact absurd h h0; exact h
      clear h1 f3
      intro w
      have B := Lib.hid (Below.refl w.heap.size w)
      go_enter Try.func10, Try.ntmps10
      go_wp2_with fail
      refine (k1.out _).mono ?_
      rintro e w1 ⟨rfl, b1⟩
      replace B := Lib.hid (bel B.out b1); clear b1
      go_wp2_with fail
      refine (k2.out _).mono ?_
      rintro e w1 ⟨rfl, b1⟩
      replace B := Lib.hid (bel B.out b1); clear b1
      go_wp2_with fail
      refine (s0.out _).mono ?_
      rintro e w1 ⟨rfl, b1⟩
      replace B := Lib.hid (bel B.out b1); clear b1
      go_wp2_with fail
      refine (s1.out _).mono ?_
      rintro e w1 ⟨rfl, b1⟩
      replace B := Lib.hid (bel B.out b1); clear b1
      go_wp2_with fail
      refine (s2.out _).mono ?_
      rintro e w1 ⟨rfl, b1⟩
      replace B := Lib.hid (bel B.out b1); clear b1
      go_wp2_with fail
      refine (s3.out _).mono ?_
      rintro e w1 ⟨rfl, b1⟩
      replace B := Lib.hid (bel B.out b1); clear b1
      go_wp2_with fail
      refine (s4.out _).mono ?_
      rintro e w1 ⟨rfl, b1⟩
      replace B := Lib.hid (bel B.out b1); clear b1
      go_wp2_with fail
      refine (s5.out _).mono ?_
      rintro e w1 ⟨rfl, b1⟩
      replace B := Lib.hid (bel B.out b1); clear b1
      go_wp2_with fail
      refine (s6.out _).mono ?_
      rintro e w1 ⟨rfl, b1⟩
      replace B := Lib.hid (bel B.out b1); clear b1
      go_wp2_with fail
      refine (s7.out _).mono ?_
      rintro e w1 ⟨rfl, b1⟩
      replace B := Lib.hid (bel B.out b1); clear b1
      go_wp2_with fail
      refine (s8.out _).mono ?_
      rintro e w1 ⟨rfl, b1⟩
      replace B := Lib.hid (bel B.out b1); clear b1
      go_wp2_with fail
      refine (AW.out _).mono ?_
      rintro e w1 ⟨rfl, b1⟩
      replace B := Lib.hid (bel B.out b1); clear b1
      go_wp2_with fail
      go_ret
      exact ⟨rfl, B.out⟩
end Go.Proofs.Ytjnmikncgglfmaa
