/- The known answers of the statements on floats. -/
import Derived.Test.YthhlgdjpopdboaaRealH
namespace Go.Proofs.Ythhlgdjpopdboaa
open Go.RowKit FloatPlain Ieee

theorem ak1 (w : World) : Calls Try.prog 13 #[.int .u64 18442240474082183868] w fun e w' => e = .returned (.tuple #[.int .u8 0, .bool true]) ∧ ∃ n, w' = w.drewN n := by
  have := kind_any 18442240474082183868 (by decide) w
  rw [show kindI 18442240474082183868 = 0 by decide, show sgn 18442240474082183868 = true by decide] at this
  exact this
theorem ak2 (w : World) : Calls Try.prog 13 #[.int .u64 9223372036854775808] w fun e w' => e = .returned (.tuple #[.int .u8 4, .bool true]) ∧ ∃ n, w' = w.drewN n := by
  have := kind_any 9223372036854775808 (by decide) w
  rw [show kindI 9223372036854775808 = 4 by decide, show sgn 9223372036854775808 = true by decide] at this
  exact this
theorem ak3 (w : World) : Calls Try.prog 13 #[.int .u64 1] w fun e w' => e = .returned (.tuple #[.int .u8 3, .bool false]) ∧ ∃ n, w' = w.drewN n := by
  have := kind_any 1 (by decide) w
  rw [show kindI 1 = 3 by decide, show sgn 1 = false by decide] at this
  exact this
theorem aof (w : World) : Calls Try.prog 24 #[.int .i64 9007199254740993] w fun e w' => e = .returned (.tuple #[.int .u64 4845873199050653696, .bool false]) ∧ w = w' := by
  have := pof_any 9007199254740993 (by decide) (by decide) w
  rw [show ofW 9007199254740993 = 4845873199050653696 by decide, show ofB 9007199254740993 = false by decide +kernel] at this
  exact this
theorem aw1 (w : World) : Calls Try.prog 15 #[.int .u64 4890909195324358656] w fun e w' => e = .returned (.tuple #[.int .i64 0, .bool false]) ∧ w = w' := by
  have := whole_any 4890909195324358656 (by decide) w
  rw [show wholeN 4890909195324358656 = 0 by decide +kernel, show wholeB 4890909195324358656 = false by decide +kernel] at this
  exact this
theorem aw2 (w : World) : Calls Try.prog 15 #[.int .u64 14114281232179134464] w fun e w' => e = .returned (.tuple #[.int .i64 (-9223372036854775808), .bool true]) ∧ w = w' := by
  have := whole_any 14114281232179134464 (by decide) w
  rw [show wholeN 14114281232179134464 = -9223372036854775808 by decide +kernel, show wholeB 14114281232179134464 = true by decide +kernel] at this
  exact this
theorem ae1 (w : World) : Calls Try.prog 20 #[.int .u64 9223372036854775808, .int .u64 0] w fun e w' => e = .returned (.bool true) ∧ w = w' := by
  have := equal_any 9223372036854775808 0 (by decide) (by decide) w
  rw [show eqB 9223372036854775808 0 = true by decide] at this
  exact this
theorem ae2 (w : World) : Calls Try.prog 20 #[.int .u64 9221120237041090560, .int .u64 9221120237041090560] w fun e w' => e = .returned (.bool false) ∧ w = w' := by
  have := equal_any 9221120237041090560 9221120237041090560 (by decide) (by decide) w
  rw [show eqB 9221120237041090560 9221120237041090560 = false by decide] at this
  exact this
theorem ac1 (w : World) : Calls Try.prog 22 #[.int .u64 9223372036854775808, .int .u64 0] w fun e w' => e = .returned (.int .i64 (-1)) ∧ w = w' := by
  have := compare_any 9223372036854775808 0 (by decide) (by decide) w
  rw [show cmpI 9223372036854775808 0 = -1 by decide] at this
  exact this
theorem ac2 (w : World) : Calls Try.prog 22 #[.int .u64 9221120237041090560, .int .u64 18442240474082183868] w fun e w' => e = .returned (.int .i64 0) ∧ w = w' := by
  have := compare_any 9221120237041090560 18442240474082183868 (by decide) (by decide) w
  rw [show cmpI 9221120237041090560 18442240474082183868 = 0 by decide] at this
  exact this
theorem bdrewN {B : Nat} {w w' : World} (h : Below B w w') (n : Nat) : Below B w (w'.drewN n) := ⟨h.os, h.tape, h.output, h.size, h.block⟩
theorem unN {B n : Nat} {w w' : World} (h : Below B (w.drewN n) w') : Below B w w' := ⟨h.os, h.tape, h.output, h.size, h.block⟩
/-- words in a block of their own -/
theorem wds_new (w : World) (l : List Nat) (hl : ∀ x ∈ l, x < 2 ^ 64) (hn : l.length ≤ 9223372036854775807) (c : Array Value) (t : TypeId) (hc : c = (l.map fun x : Nat => Value.int .u64 x).toArray) :
    Wds (w.alloc (.cells c t)) (some ⟨w.heap.size, 0, none⟩) l.length (fun i => l.getD i 0) := by
  subst hc
  refine ⟨fun i => ?_, hn, fun _ => ⟨_, _, rfl, by simp, fun i hi => ?_⟩⟩
  · simp only [List.getD_eq_getElem?_getD]
    cases h : l[i]? with
    | none => decide
    | some x => exact hl x (List.mem_of_getElem? h)
  · rw [Nat.zero_add, cell_of_row _ _ _ _ t (0, 0) (heap_alloc_new _ _)]
    simp only [List.getElem?_toArray, List.getElem?_map, List.getD_eq_getElem?_getD]
    rw [List.getElem?_eq_getElem hi]; rfl
theorem Lf_getD (l : List Nat) : Lf (fun i => l.getD i 0) l.length = l := by
  unfold Lf
  refine List.ext_getElem (by simp) fun i h1 h2 => ?_
  simp [h2]
theorem sum_new (w : World) (l : List Nat) (hl : ∀ x ∈ l, x < 2 ^ 64) (hn : l.length ≤ 9223372036854775807) (c : Array Value) (t : TypeId) (hc : c = (l.map fun x : Nat => Value.int .u64 x).toArray) (k : Nat) (hk : k = l.length) (r : Int) (hr : r = (sumW l : Nat)) :
    Calls Try.prog 26 #[.slice (some ⟨w.heap.size, 0, none⟩) k k] (w.alloc (.cells c t)) fun e w' => e = .returned (.int .u64 r) ∧ Below w.heap.size w w' := by
  subst hk hr
  have := psum_any _ _ _ l.length _ (wds_new w l hl hn c t hc) (Nat.le_refl _)
  rw [Lf_getD] at this
  refine this.mono fun e w' ⟨he, n, hw⟩ => ⟨he, ?_⟩
  rw [hw]
  exact bdrewN ((Below.refl _ _).alloc (Nat.le_refl _) _) n
theorem as1 (w : World) : Calls Try.prog 26 #[.slice (some ⟨w.heap.size, 0, none⟩) 2 2] (w.alloc (.cells #[.int .u64 9218868437227405312, .int .u64 18442240474082181120] 22)) fun e w' => e = .returned (.int .u64 9221120237041090560) ∧ Below w.heap.size w w' :=
  sum_new w [9218868437227405312, 18442240474082181120] (by simp) (by decide) _ _ rfl _ rfl _ (by decide +kernel)
theorem as2 (w : World) : Calls Try.prog 26 #[.slice (some ⟨w.heap.size, 0, none⟩) 1 1] (w.alloc (.cells #[.int .u64 9223372036854775808] 22)) fun e w' => e = .returned (.int .u64 9223372036854775808) ∧ Below w.heap.size w w' :=
  sum_new w [9223372036854775808] (by simp) (by decide) _ _ rfl _ rfl _ (by decide +kernel)
theorem as3 (w : World) : Calls Try.prog 26 #[.slice (some ⟨w.heap.size, 0, none⟩) 2 2] (w.alloc (.cells #[.int .u64 9223372036854775808, .int .u64 0] 22)) fun e w' => e = .returned (.int .u64 0) ∧ Below w.heap.size w w' :=
  sum_new w [9223372036854775808, 0] (by simp) (by decide) _ _ rfl _ rfl _ (by decide +kernel)
theorem as4 (w : World) : Calls Try.prog 26 #[.slice (some ⟨w.heap.size, 0, none⟩) 3 3] (w.alloc (.cells #[.int .u64 4607182418800017408, .int .u64 4845873199050653696, .int .u64 14069245235905429504] 22)) fun e w' => e = .returned (.int .u64 0) ∧ Below w.heap.size w w' :=
  sum_new w [4607182418800017408, 4845873199050653696, 14069245235905429504] (by simp) (by decide) _ _ rfl _ rfl _ (by decide +kernel)
set_option maxHeartbeats 1000000 in
theorem awake_any (w : World) : Calls Try.prog 19 #[] w fun e w' => e = .returned (.bool true) ∧ Below w.heap.size w w' := by
  go_enter Try.func19, Try.ntmps19
  go_wp2_with fail
  refine (ak1 _).mono ?_
  rintro e w1 ⟨rfl, n1, rfl⟩
  go_wp2_with fail
  refine (ak2 _).mono ?_
  rintro e w2 ⟨rfl, n2, rfl⟩
  go_wp2_with fail
  refine (ak3 _).mono ?_
  rintro e w3 ⟨rfl, n3, rfl⟩
  go_wp2_with fail
  refine (aof _).mono ?_
  rintro e w' ⟨rfl, rfl⟩
  go_wp2_with fail
  refine (aw1 _).mono ?_
  rintro e w' ⟨rfl, rfl⟩
  go_wp2_with fail
  refine (aw2 _).mono ?_
  rintro e w' ⟨rfl, rfl⟩
  go_wp2_with fail
  refine (ae1 _).mono ?_
  rintro e w' ⟨rfl, rfl⟩
  go_wp2_with fail
  refine (ac1 _).mono ?_
  rintro e w' ⟨rfl, rfl⟩
  go_wp2_with fail
  refine (ae2 _).mono ?_
  rintro e w' ⟨rfl, rfl⟩
  go_wp2_with fail
  refine (ac2 _).mono ?_
  rintro e w' ⟨rfl, rfl⟩
  go_wp2_with fail
  refine (as1 _).mono ?_
  rintro e w4 ⟨rfl, b4⟩
  have B4 := Lib.hid (unN b4)
  clear b4
  go_wp2_with fail
  refine (as2 _).mono ?_
  rintro e w5 ⟨rfl, b5⟩
  have B5 := Lib.hid (B4.out.trans (b5.mono B4.out.size))
  clear b5 B4
  go_wp2_with fail
  refine (as3 _).mono ?_
  rintro e w6 ⟨rfl, b6⟩
  have B6 := Lib.hid (B5.out.trans (b6.mono B5.out.size))
  clear b6 B5
  go_wp2_with fail
  refine (as4 _).mono ?_
  rintro e w7 ⟨rfl, b7⟩
  have B7 := Lib.hid (B6.out.trans (b7.mono B6.out.size))
  clear b7 B6
  go_wp2_with fail
  go_ret
  exact ⟨rfl, B7.out⟩
end Go.Proofs.Ythhlgdjpopdboaa
